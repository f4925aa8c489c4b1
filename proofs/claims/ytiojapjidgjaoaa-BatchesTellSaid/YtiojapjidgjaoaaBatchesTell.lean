/-
  Rows.BatchesTellSaid: what is wrong with any batch, and its bytes, and whether two are the same, is the document's.
-/
import Derived.Test.YtiojapjidgjaoaaBatLocal
import Derived.Test.YtiojapjidgjaoaaBatchesFirst
import Derived.Test.YtiojapjidgjaoaaBatRefPut
namespace Go.Proofs.Ytiojapjidgjaoaa
open Go.RowKit
set_option linter.unusedVariables false
set_option linter.unusedSimpArgs false

theorem bAlloc {a w : World} (h : Below a.heap.size a w) (o : Obj) : Below a.heap.size a (w.alloc o) := h.alloc h.size o
theorem bSet {a w : World} (h : Below a.heap.size a w) {p : Addr} (hp : a.heap.size ≤ p.block) (v : Value) : Below a.heap.size a (w.setCell p v) := h.setCell hp v
theorem cells_rule {w w' : World} (hb : Below w.heap.size w w') {g : Nat} (hg : g < w.heap.size) : (∀ i, w'.cell? ⟨g, i, none⟩ = w.cell? ⟨g, i, none⟩) ∧ ∀ i, w'.frozen? ⟨g, i, none⟩ = w.frozen? ⟨g, i, none⟩ :=
  ⟨fun i => hb.cell (p := ⟨g, i, none⟩) hg, fun i => hb.frozen (p := ⟨g, i, none⟩) hg⟩
theorem cells3 {w w' : World} (hb : Below w.heap.size w w') {g : Nat} {a b c : Value} (hg : g < w.heap.size) (h0 : w.cell? ⟨g, 0, none⟩ = some a) (h1 : w.cell? ⟨g, 1, none⟩ = some b) (h2 : w.cell? ⟨g, 2, none⟩ = some c) (f0 : w.frozen? ⟨g, 0, none⟩ = false) (f1 : w.frozen? ⟨g, 1, none⟩ = false) (f2 : w.frozen? ⟨g, 2, none⟩ = false) :
    ((w'.cell? ⟨g, 0, none⟩ = some a ∧ w'.cell? ⟨g, 1, none⟩ = some b ∧ w'.cell? ⟨g, 2, none⟩ = some c) ∧ w'.frozen? ⟨g, 0, none⟩ = false ∧ w'.frozen? ⟨g, 1, none⟩ = false ∧ w'.frozen? ⟨g, 2, none⟩ = false) ∧
    ((∀ o, (w'.alloc o).cell? ⟨g, 0, none⟩ = some a) ∧ (∀ o, (w'.alloc o).cell? ⟨g, 1, none⟩ = some b) ∧ ∀ o, (w'.alloc o).cell? ⟨g, 2, none⟩ = some c) ∧ (∀ o, (w'.alloc o).frozen? ⟨g, 0, none⟩ = false) ∧ (∀ o, (w'.alloc o).frozen? ⟨g, 1, none⟩ = false) ∧ ∀ o, (w'.alloc o).frozen? ⟨g, 2, none⟩ = false := by
  have k1 : (w'.cell? ⟨g, 0, none⟩ = some a ∧ w'.cell? ⟨g, 1, none⟩ = some b ∧ w'.cell? ⟨g, 2, none⟩ = some c) ∧ w'.frozen? ⟨g, 0, none⟩ = false ∧ w'.frozen? ⟨g, 1, none⟩ = false ∧ w'.frozen? ⟨g, 2, none⟩ = false :=
    ⟨⟨((cells_rule hb hg).1 0).trans h0, ((cells_rule hb hg).1 1).trans h1, ((cells_rule hb hg).1 2).trans h2⟩, ((cells_rule hb hg).2 0).trans f0, ((cells_rule hb hg).2 1).trans f1, ((cells_rule hb hg).2 2).trans f2⟩
  have hg' : g < w'.heap.size := Nat.lt_of_lt_of_le hg hb.size
  have k2 := fun o => cells_rule (((Below.refl w'.heap.size w').alloc (Nat.le_refl _) o)) hg'
  obtain ⟨⟨a0, a1, a2⟩, b0, b1, b2⟩ := k1
  exact ⟨⟨⟨a0, a1, a2⟩, b0, b1, b2⟩, ⟨fun o => ((k2 o).1 0).trans a0, fun o => ((k2 o).1 1).trans a1, fun o => ((k2 o).1 2).trans a2⟩, fun o => ((k2 o).2 0).trans b0, fun o => ((k2 o).2 1).trans b1, fun o => ((k2 o).2 2).trans b2⟩
theorem bSet3 {a w : World} (h : Below a.heap.size a w) {g : Nat} (hg : a.heap.size ≤ g) (x y z : Value) : Below a.heap.size a (((w.setCell ⟨g, 0, none⟩ x).setCell ⟨g, 1, none⟩ y).setCell ⟨g, 2, none⟩ z) :=
  ((h.setCell (p := ⟨g, 0, none⟩) hg x).setCell (p := ⟨g, 1, none⟩) hg y).setCell (p := ⟨g, 2, none⟩) hg z
theorem heap_set3 (w : World) (g k : Nat) (x y z : Value) (h : k ≠ g) : (((w.setCell ⟨g, 0, none⟩ x).setCell ⟨g, 1, none⟩ y).setCell ⟨g, 2, none⟩ z).heap[k]? = w.heap[k]? := by
  rw [Below.heap_setCell _ _ _ _ h, Below.heap_setCell _ _ _ _ h, Below.heap_setCell _ _ _ _ h]
theorem wp_meet6 {P : Program} {c : Code} {Q : Exit → Act → World → Prop} {a : Act} {w : World} (R : Nat → Nat → Option Addr → Nat → Option Addr → Nat → World → Prop) (A : Nat → Nat → Option Addr → Nat → Option Addr → Nat → Act)
    (h1 : c.wp P (fun e a' w' => e = .normal ∧ ∃ x y p m q n, a' = A x y p m q n ∧ R x y p m q n w') a w) (h2 : ∀ x y p m q n w', R x y p m q n w' → Q .normal (A x y p m q n) w') : c.wp P Q a w :=
  Code.wp_mono (fun e a' w' h => by obtain ⟨rfl, x, y, p, m, q, n, rfl, h⟩ := h; exact h2 x y p m q n w' h) h1
/-- At block g a batch's value lies. -/
def BoxAt (w : World) (g : Nat) (s : ByteArray) (f : Int) (A : Option Addr) (n c : Nat) : Prop := g < w.heap.size ∧ w.cell? ⟨g, 0, none⟩ = some (.string s) ∧ w.cell? ⟨g, 1, none⟩ = some (.int .i64 f) ∧ w.cell? ⟨g, 2, none⟩ = some (.slice A n c)
theorem BoxAt.next {w w' : World} {g : Nat} {s : ByteArray} {f : Int} {A : Option Addr} {n c : Nat} (h : BoxAt w g s f A n c) (hb : Below w.heap.size w w') : BoxAt w' g s f A n c :=
  ⟨Nat.lt_of_lt_of_le h.1 hb.size, (hb.cell (p := ⟨g, 0, none⟩) h.1).trans h.2.1, (hb.cell (p := ⟨g, 1, none⟩) h.1).trans h.2.2.1, (hb.cell (p := ⟨g, 2, none⟩) h.1).trans h.2.2.2⟩

theorem with_box {p q r s t : Prop} (h : p ∧ q) (h1 : r) (h2 : s) (h3 : t) : p ∧ q ∧ r ∧ s ∧ t := ⟨h.1, h.2, h1, h2, h3⟩
theorem boxes_done (W : World) (g h : Nat) (s s' : ByteArray) (f f' : Int) (A A' : Option Addr) (n c n' c' : Nat) (hne : g ≠ h) (l1 : g < W.heap.size) (l2 : h < W.heap.size)
    (e0 : ∃ x, W.cell? ⟨g, 0, none⟩ = some x) (e1 : ∃ x, W.cell? ⟨g, 1, none⟩ = some x) (e2 : ∃ x, W.cell? ⟨g, 2, none⟩ = some x) (d0 : ∃ x, W.cell? ⟨h, 0, none⟩ = some x) (d1 : ∃ x, W.cell? ⟨h, 1, none⟩ = some x) (d2 : ∃ x, W.cell? ⟨h, 2, none⟩ = some x) :
    BoxAt ((((((W.setCell ⟨g, 0, none⟩ (.string s)).setCell ⟨g, 1, none⟩ (.int .i64 f)).setCell ⟨g, 2, none⟩ (.slice A n c)).setCell ⟨h, 0, none⟩ (.string s')).setCell ⟨h, 1, none⟩ (.int .i64 f')).setCell ⟨h, 2, none⟩ (.slice A' n' c')) g s f A n c ∧
    BoxAt ((((((W.setCell ⟨g, 0, none⟩ (.string s)).setCell ⟨g, 1, none⟩ (.int .i64 f)).setCell ⟨g, 2, none⟩ (.slice A n c)).setCell ⟨h, 0, none⟩ (.string s')).setCell ⟨h, 1, none⟩ (.int .i64 f')).setCell ⟨h, 2, none⟩ (.slice A' n' c')) h s' f' A' n' c' := by
  obtain ⟨x0, e0⟩ := e0
  obtain ⟨x1, e1⟩ := e1
  obtain ⟨x2, e2⟩ := e2
  obtain ⟨y0, d0⟩ := d0
  obtain ⟨y1, d1⟩ := d1
  obtain ⟨y2, d2⟩ := d2
  have hne' := hne.symm
  refine ⟨⟨by simp only [World.size_setCell]; exact l1, ?_, ?_, ?_⟩, ⟨by simp only [World.size_setCell]; exact l2, ?_, ?_, ?_⟩⟩ <;> simp [go_sem, hne, hne', e0, e1, e2, d0, d1, d2]
theorem boxes_lit (W : World) (s s' : ByteArray) (f f' : Int) (A A' : Option Addr) (n c n' c' : Nat) :
    BoxAt ((W.alloc (.cells #[.string s, .int .i64 f, .slice A n c] 49)).alloc (.cells #[.string s', .int .i64 f', .slice A' n' c'] 49)) W.heap.size s f A n c ∧
    BoxAt ((W.alloc (.cells #[.string s, .int .i64 f, .slice A n c] 49)).alloc (.cells #[.string s', .int .i64 f', .slice A' n' c'] 49)) (W.heap.size + 1) s' f' A' n' c' := by
  refine ⟨⟨by simp only [World.size_alloc]; omega, ?_, ?_, ?_⟩, ⟨by simp only [World.size_alloc]; omega, ?_, ?_, ?_⟩⟩ <;> simp [go_sem]
theorem boxes_lit' (W : World) (s s' : ByteArray) (f f' : Int) (A A' : Option Addr) (n c n' c' : Nat) :
    BoxAt ((W.alloc (.cells #[.string s', .int .i64 f', .slice A' n' c'] 49)).alloc (.cells #[.string s, .int .i64 f, .slice A n c] 49)) (W.heap.size + 1) s f A n c ∧
    BoxAt ((W.alloc (.cells #[.string s', .int .i64 f', .slice A' n' c'] 49)).alloc (.cells #[.string s, .int .i64 f, .slice A n c] 49)) W.heap.size s' f' A' n' c' :=
  (boxes_lit W s' s f' f A' A n' c' n c).symm
theorem boxes_mix (W : World) (h : Nat) (s s' : ByteArray) (f f' : Int) (A A' : Option Addr) (n c n' c' : Nat) (l2 : h < W.heap.size)
    (d0 : ∃ x, W.cell? ⟨h, 0, none⟩ = some x) (d1 : ∃ x, W.cell? ⟨h, 1, none⟩ = some x) (d2 : ∃ x, W.cell? ⟨h, 2, none⟩ = some x) :
    BoxAt ((((W.alloc (.cells #[.string s, .int .i64 f, .slice A n c] 49)).setCell ⟨h, 0, none⟩ (.string s')).setCell ⟨h, 1, none⟩ (.int .i64 f')).setCell ⟨h, 2, none⟩ (.slice A' n' c')) W.heap.size s f A n c ∧
    BoxAt ((((W.alloc (.cells #[.string s, .int .i64 f, .slice A n c] 49)).setCell ⟨h, 0, none⟩ (.string s')).setCell ⟨h, 1, none⟩ (.int .i64 f')).setCell ⟨h, 2, none⟩ (.slice A' n' c')) h s' f' A' n' c' := by
  obtain ⟨y0, d0⟩ := d0
  obtain ⟨y1, d1⟩ := d1
  obtain ⟨y2, d2⟩ := d2
  have hb := (Below.refl W.heap.size W).alloc (Nat.le_refl _) (.cells #[.string s, .int .i64 f, .slice A n c] 49)
  have k0 := (hb.cell (p := ⟨h, 0, none⟩) l2).trans d0
  have k1 := (hb.cell (p := ⟨h, 1, none⟩) l2).trans d1
  have k2 := (hb.cell (p := ⟨h, 2, none⟩) l2).trans d2
  have hne : W.heap.size ≠ h := by omega
  have hne' := hne.symm
  refine ⟨⟨by simp only [World.size_setCell, World.size_alloc]; omega, ?_, ?_, ?_⟩, ⟨by simp only [World.size_setCell, World.size_alloc]; omega, ?_, ?_, ?_⟩⟩ <;> simp [go_sem, hne, hne', k0, k1, k2]
theorem boxes_mix' (W : World) (h : Nat) (s s' : ByteArray) (f f' : Int) (A A' : Option Addr) (n c n' c' : Nat) (l2 : h < W.heap.size)
    (d0 : ∃ x, W.cell? ⟨h, 0, none⟩ = some x) (d1 : ∃ x, W.cell? ⟨h, 1, none⟩ = some x) (d2 : ∃ x, W.cell? ⟨h, 2, none⟩ = some x) :
    BoxAt ((((W.alloc (.cells #[.string s', .int .i64 f', .slice A' n' c'] 49)).setCell ⟨h, 0, none⟩ (.string s)).setCell ⟨h, 1, none⟩ (.int .i64 f)).setCell ⟨h, 2, none⟩ (.slice A n c)) h s f A n c ∧
    BoxAt ((((W.alloc (.cells #[.string s', .int .i64 f', .slice A' n' c'] 49)).setCell ⟨h, 0, none⟩ (.string s)).setCell ⟨h, 1, none⟩ (.int .i64 f)).setCell ⟨h, 2, none⟩ (.slice A n c)) W.heap.size s' f' A' n' c' :=
  (boxes_mix W h s' s f' f A' A n' c' n c l2 d0 d1 d2).symm
set_option maxHeartbeats 16000000 in
theorem BatchesTell_walk (v : Value) (a : Bat) (v' : Value) (b : Bat) (w : World) (ha : RawB w v a) (hb : RawB w v' b) :
    Calls Try.prog 9 #[v, v'] w fun e w' => e = .returned (.bool true) ∧ Below w.heap.size w w' := by
  obtain ⟨s, f, l⟩ := a
  obtain ⟨s', f', l'⟩ := b
  obtain ⟨A, c, rfl, -⟩ := id ha
  obtain ⟨A', c', rfl, -⟩ := id hb
  simp only [] at ha hb ⊢
  have ga := great_few (b := (s, f, l))
  have gb := great_few (b := (s', f', l'))
  have hz := lit2_below' w (.cells #[.string s, .int .i64 f, .slice A l.length c] 47) (.cells #[.string s', .int .i64 f', .slice A' l'.length c'] 47)
  have ra := rawB_Great _ _ _ (ha.next hz)
  have rb := fun w' h => rawB_Great _ _ w' ((hb.next hz).next (w' := w') h)
  simp only [] at ga gb
  have R0 : Row ((w.alloc (.cells #[.string s, .int .i64 f, .slice A l.length c] 47)).alloc (.cells #[.string s', .int .i64 f', .slice A' l'.length c'] 47)) w.heap.size 47 [.string s, .int .i64 f, .slice A l.length c] := (Row.new w #[.string s, .int .i64 f, .slice A l.length c] _).alloc _
  have R1 : Row ((w.alloc (.cells #[.string s, .int .i64 f, .slice A l.length c] 47)).alloc (.cells #[.string s', .int .i64 f', .slice A' l'.length c'] 47)) (w.heap.size + 1) 47 [.string s', .int .i64 f', .slice A' l'.length c'] := by
    have h := Row.new (w.alloc (.cells #[.string s, .int .i64 f, .slice A l.length c] 47)) #[.string s', .int .i64 f', .slice A' l'.length c'] 47
    have e : (w.alloc (.cells #[.string s, .int .i64 f, .slice A l.length c] 47)).heap.size = w.heap.size + 1 := by simp
    rw [e] at h; exact h
  generalize greatB (s, f, l) = gra at ga ra
  generalize greatB (s', f', l') = grb at gb rb
  rcases gra with _ | _
  · rcases grb with _ | _
    · obtain ⟨ga1, ga2⟩ := ga rfl
      obtain ⟨gb1, gb2⟩ := gb rfl
      clear ga gb
      have ha0 := ha.next hz
      have hb0 := hb.next hz
      go_enter Try.func9, Try.ntmps9
      go_wp2_with fail
      generalize (w.alloc (.cells #[.string s, .int .i64 f, .slice A l.length c] 47)).alloc (.cells #[.string s', .int .i64 f', .slice A' l'.length c'] 47) = w0 at hz R0 R1 ra rb ha0 hb0 ⊢
      refine ra.mono ?_
      rintro e w1 ⟨rfl, hb1⟩
      obtain ⟨q0, q1, q2, -, -, -⟩ := row_agg (R1.next hb1)
      go_wp2_with fail
      refine (rb _ hb1).mono ?_
      rintro e w2 ⟨rfl, hb2⟩
      have hb02 := below_chain hb1 hb2
      have R02 := R0.next hb02
      have R12 := R1.next hb02
      have ha2 := ha0.next hb02
      have hb2' := hb0.next hb02
      have hbw := below_chain hz hb02
      clear q0 q1 q2 R0 R1 ra rb hb1 hb2 hb02 ha hb ha0 hb0 hz
      obtain ⟨p0, p1, p2, -, -, -⟩ := row_agg R02
      obtain ⟨q0, q1, q2, -, -, -⟩ := row_agg R12
      have lt0 := R02.lt
      have lt1 := R12.lt
      have ca := fun w' (h : Below w2.heap.size w2 w') => rawB_BatchK _ _ w' (ha2.next h) (by simp only []; omega)
      have cb := fun w' (h : Below w2.heap.size w2 w') => rawB_BatchK _ _ w' (hb2'.next h) (by simp only []; omega)
      simp only [] at ca cb
      obtain ⟨G, hG⟩ : ∃ G, G = w.heap.size := ⟨_, rfl⟩
      obtain ⟨G', hG'⟩ : ∃ G, G = w.heap.size + 1 := ⟨_, rfl⟩
      go_wp2_with fail
      rw [← hG'] at q0 q1 q2 lt1 R12 ⊢
      rw [← hG] at p0 p1 p2 lt0 R02 ⊢
      have HG := Lib.hid hG
      have HG' := Lib.hid hG'
      clear hG hG'
      have HS := Lib.hid (show ∀ w', Below w2.heap.size w2 w' → w'.cell? ⟨G, 0, none⟩ = some (.string s) ∧ w'.cell? ⟨G, 1, none⟩ = some (.int .i64 f) ∧ w'.cell? ⟨G, 2, none⟩ = some (.slice A l.length c) ∧ w'.cell? ⟨G', 0, none⟩ = some (.string s') ∧ w'.cell? ⟨G', 1, none⟩ = some (.int .i64 f') ∧ w'.cell? ⟨G', 2, none⟩ = some (.slice A' l'.length c') from fun w' hb =>
        ⟨(hb.cell (p := ⟨G, 0, none⟩) lt0).trans p0, (hb.cell (p := ⟨G, 1, none⟩) lt0).trans p1, (hb.cell (p := ⟨G, 2, none⟩) lt0).trans p2, (hb.cell (p := ⟨G', 0, none⟩) lt1).trans q0, (hb.cell (p := ⟨G', 1, none⟩) lt1).trans q1, (hb.cell (p := ⟨G', 2, none⟩) lt1).trans q2⟩)
      clear lt0 lt1 R02 R12
      apply wp_meet6 (fun g g' A1 c1 A2 c2 w' => BoxAt w' g s f A1 l.length c1 ∧ BoxAt w' g' s' f' A2 l'.length c2 ∧ BatV w' (.agg #[.string s, .int .i64 f, .slice A1 l.length c1]) (s, f, l) ∧ BatV w' (.agg #[.string s', .int .i64 f', .slice A2 l'.length c2]) (s', f', l') ∧ Below w2.heap.size w2 w')
      · refine wp_region_noPanic ?_
        go_region_held_law (fun w' => w'.cell? ⟨G, 0, none⟩ = some (.string s) ∧ w'.cell? ⟨G, 1, none⟩ = some (.int .i64 f) ∧ w'.cell? ⟨G, 2, none⟩ = some (.slice A l.length c) ∧ w'.cell? ⟨G', 0, none⟩ = some (.string s') ∧ w'.cell? ⟨G', 1, none⟩ = some (.int .i64 f') ∧ w'.cell? ⟨G', 2, none⟩ = some (.slice A' l'.length c'))
          ((refine HS.out _ ?_; repeat (first | (with_reducible exact Below.refl _ _) | (with_reducible assumption) | (with_reducible refine bSet ?_ (by first | exact Nat.le_refl _ | exact Nat.le_add_right _ _ | exact sA | exact sB | exact Nat.le_succ_of_le sA | exact Nat.le_succ_of_le sB) _) | (with_reducible refine bAlloc ?_ _) | (with_reducible refine Below.drew ?_) | (with_reducible refine below_chain ?_ (by with_reducible assumption)))))
          (first | (go_at_call 30; (with_reducible refine (ca _ (by repeat (first | (with_reducible exact Below.refl _ _) | (with_reducible assumption) | (with_reducible refine bAlloc ?_ _) | (with_reducible refine Below.drew ?_) | (with_reducible refine below_chain ?_ (by with_reducible assumption))))).mono ?_); rintro e wA ⟨A1, c1, rfl, ⟨kA, iA, jA, hA⟩, hbA⟩; refine with_conv hbA.size ?_; intro zA; (try simp only [World.size_alloc, World.size_drew] at zA iA); refine with_conv (show w2.heap.size ≤ wA.heap.size by omega) ?_; intro sA; (first | (refine with_conv (cells3 hbA (g := w2.heap.size) (a := .string ⟨#[]⟩) (b := .int .i64 0) (c := .slice none 0 0) (by first | (simp only [World.size_alloc, World.size_drew]; omega) | omega) (by first | assumption | (simp [go_sem]; done)) (by first | assumption | (simp [go_sem]; done)) (by first | assumption | (simp [go_sem]; done)) (by first | assumption | (simp [go_sem]; done)) (by first | assumption | (simp [go_sem]; done)) (by first | assumption | (simp [go_sem]; done))) ?_; rintro ⟨⟨⟨qA0x, qA0y, qA0z⟩, fA0x, fA0y, fA0z⟩, ⟨qA0u, qA0v, qA0w⟩, fA0u, fA0v, fA0w⟩) | skip); (first | (refine with_conv (show w2.heap.size ≠ wA.heap.size ∧ wA.heap.size ≠ w2.heap.size from ⟨by omega, by omega⟩) ?_; rintro ⟨nA0a, mA0a⟩) | skip); (first | (refine with_conv (show w2.heap.size ≠ wA.heap.size + 1 ∧ wA.heap.size + 1 ≠ w2.heap.size from ⟨by omega, by omega⟩) ?_; rintro ⟨nA0b, mA0b⟩) | skip); (first | (refine with_conv (cells3 hbA (g := w2.heap.size + 1) (a := .string ⟨#[]⟩) (b := .int .i64 0) (c := .slice none 0 0) (by first | (simp only [World.size_alloc, World.size_drew]; omega) | omega) (by first | assumption | (simp [go_sem]; done)) (by first | assumption | (simp [go_sem]; done)) (by first | assumption | (simp [go_sem]; done)) (by first | assumption | (simp [go_sem]; done)) (by first | assumption | (simp [go_sem]; done)) (by first | assumption | (simp [go_sem]; done))) ?_; rintro ⟨⟨⟨qA1x, qA1y, qA1z⟩, fA1x, fA1y, fA1z⟩, ⟨qA1u, qA1v, qA1w⟩, fA1u, fA1v, fA1w⟩) | skip); (first | (refine with_conv (show w2.heap.size + 1 ≠ wA.heap.size ∧ wA.heap.size ≠ w2.heap.size + 1 from ⟨by omega, by omega⟩) ?_; rintro ⟨nA1a, mA1a⟩) | skip); (first | (refine with_conv (show w2.heap.size + 1 ≠ wA.heap.size + 1 ∧ wA.heap.size + 1 ≠ w2.heap.size + 1 from ⟨by omega, by omega⟩) ?_; rintro ⟨nA1b, mA1b⟩) | skip)) | (go_at_call 30; (with_reducible refine (cb _ (by repeat (first | (with_reducible exact Below.refl _ _) | (with_reducible assumption) | (with_reducible refine bAlloc ?_ _) | (with_reducible refine Below.drew ?_) | (with_reducible refine below_chain ?_ (by with_reducible assumption))))).mono ?_); rintro e wB ⟨A2, c2, rfl, ⟨kB, iB, jB, hB⟩, hbB⟩; refine with_conv hbB.size ?_; intro zB; (try simp only [World.size_alloc, World.size_drew] at zB iB); refine with_conv (show w2.heap.size ≤ wB.heap.size by omega) ?_; intro sB; (first | (refine with_conv (cells3 hbB (g := w2.heap.size) (a := .string ⟨#[]⟩) (b := .int .i64 0) (c := .slice none 0 0) (by first | (simp only [World.size_alloc, World.size_drew]; omega) | omega) (by first | assumption | exact qA0u _ | exact qA0v _ | exact qA0w _ | exact fA0u _ | exact fA0v _ | exact fA0w _ | exact qA1u _ | exact qA1v _ | exact qA1w _ | exact fA1u _ | exact fA1v _ | exact fA1w _ | (simp [go_sem]; done)) (by first | assumption | exact qA0u _ | exact qA0v _ | exact qA0w _ | exact fA0u _ | exact fA0v _ | exact fA0w _ | exact qA1u _ | exact qA1v _ | exact qA1w _ | exact fA1u _ | exact fA1v _ | exact fA1w _ | (simp [go_sem]; done)) (by first | assumption | exact qA0u _ | exact qA0v _ | exact qA0w _ | exact fA0u _ | exact fA0v _ | exact fA0w _ | exact qA1u _ | exact qA1v _ | exact qA1w _ | exact fA1u _ | exact fA1v _ | exact fA1w _ | (simp [go_sem]; done)) (by first | assumption | exact qA0u _ | exact qA0v _ | exact qA0w _ | exact fA0u _ | exact fA0v _ | exact fA0w _ | exact qA1u _ | exact qA1v _ | exact qA1w _ | exact fA1u _ | exact fA1v _ | exact fA1w _ | (simp [go_sem]; done)) (by first | assumption | exact qA0u _ | exact qA0v _ | exact qA0w _ | exact fA0u _ | exact fA0v _ | exact fA0w _ | exact qA1u _ | exact qA1v _ | exact qA1w _ | exact fA1u _ | exact fA1v _ | exact fA1w _ | (simp [go_sem]; done)) (by first | assumption | exact qA0u _ | exact qA0v _ | exact qA0w _ | exact fA0u _ | exact fA0v _ | exact fA0w _ | exact qA1u _ | exact qA1v _ | exact qA1w _ | exact fA1u _ | exact fA1v _ | exact fA1w _ | (simp [go_sem]; done))) ?_; rintro ⟨⟨⟨qB0x, qB0y, qB0z⟩, fB0x, fB0y, fB0z⟩, ⟨qB0u, qB0v, qB0w⟩, fB0u, fB0v, fB0w⟩) | skip); (first | (refine with_conv (show w2.heap.size ≠ wB.heap.size ∧ wB.heap.size ≠ w2.heap.size from ⟨by omega, by omega⟩) ?_; rintro ⟨nB0a, mB0a⟩) | skip); (first | (refine with_conv (show w2.heap.size ≠ wB.heap.size + 1 ∧ wB.heap.size + 1 ≠ w2.heap.size from ⟨by omega, by omega⟩) ?_; rintro ⟨nB0b, mB0b⟩) | skip); (first | (refine with_conv (cells3 hbB (g := w2.heap.size + 1) (a := .string ⟨#[]⟩) (b := .int .i64 0) (c := .slice none 0 0) (by first | (simp only [World.size_alloc, World.size_drew]; omega) | omega) (by first | assumption | exact qA0u _ | exact qA0v _ | exact qA0w _ | exact fA0u _ | exact fA0v _ | exact fA0w _ | exact qA1u _ | exact qA1v _ | exact qA1w _ | exact fA1u _ | exact fA1v _ | exact fA1w _ | (simp [go_sem]; done)) (by first | assumption | exact qA0u _ | exact qA0v _ | exact qA0w _ | exact fA0u _ | exact fA0v _ | exact fA0w _ | exact qA1u _ | exact qA1v _ | exact qA1w _ | exact fA1u _ | exact fA1v _ | exact fA1w _ | (simp [go_sem]; done)) (by first | assumption | exact qA0u _ | exact qA0v _ | exact qA0w _ | exact fA0u _ | exact fA0v _ | exact fA0w _ | exact qA1u _ | exact qA1v _ | exact qA1w _ | exact fA1u _ | exact fA1v _ | exact fA1w _ | (simp [go_sem]; done)) (by first | assumption | exact qA0u _ | exact qA0v _ | exact qA0w _ | exact fA0u _ | exact fA0v _ | exact fA0w _ | exact qA1u _ | exact qA1v _ | exact qA1w _ | exact fA1u _ | exact fA1v _ | exact fA1w _ | (simp [go_sem]; done)) (by first | assumption | exact qA0u _ | exact qA0v _ | exact qA0w _ | exact fA0u _ | exact fA0v _ | exact fA0w _ | exact qA1u _ | exact qA1v _ | exact qA1w _ | exact fA1u _ | exact fA1v _ | exact fA1w _ | (simp [go_sem]; done)) (by first | assumption | exact qA0u _ | exact qA0v _ | exact qA0w _ | exact fA0u _ | exact fA0v _ | exact fA0w _ | exact qA1u _ | exact qA1v _ | exact qA1w _ | exact fA1u _ | exact fA1v _ | exact fA1w _ | (simp [go_sem]; done))) ?_; rintro ⟨⟨⟨qB1x, qB1y, qB1z⟩, fB1x, fB1y, fB1z⟩, ⟨qB1u, qB1v, qB1w⟩, fB1u, fB1v, fB1w⟩) | skip); (first | (refine with_conv (show w2.heap.size + 1 ≠ wB.heap.size ∧ wB.heap.size ≠ w2.heap.size + 1 from ⟨by omega, by omega⟩) ?_; rintro ⟨nB1a, mB1a⟩) | skip); (first | (refine with_conv (show w2.heap.size + 1 ≠ wB.heap.size + 1 ∧ wB.heap.size + 1 ≠ w2.heap.size + 1 from ⟨by omega, by omega⟩) ?_; rintro ⟨nB1b, mB1b⟩) | skip); (first | (refine with_conv (cells3 hbB (g := wA.heap.size) (a := .string ⟨#[]⟩) (b := .int .i64 0) (c := .slice none 0 0) (by first | (simp only [World.size_alloc, World.size_drew]; omega) | omega) (by first | assumption | (simp [go_sem]; done)) (by first | assumption | (simp [go_sem]; done)) (by first | assumption | (simp [go_sem]; done)) (by first | assumption | (simp [go_sem]; done)) (by first | assumption | (simp [go_sem]; done)) (by first | assumption | (simp [go_sem]; done))) ?_; rintro ⟨⟨⟨qB2x, qB2y, qB2z⟩, fB2x, fB2y, fB2z⟩, ⟨qB2u, qB2v, qB2w⟩, fB2u, fB2v, fB2w⟩) | skip); (first | (refine with_conv (show wA.heap.size ≠ wB.heap.size ∧ wB.heap.size ≠ wA.heap.size from ⟨by omega, by omega⟩) ?_; rintro ⟨nB2a, mB2a⟩) | skip); (first | (refine with_conv (show wA.heap.size ≠ wB.heap.size + 1 ∧ wB.heap.size + 1 ≠ wA.heap.size from ⟨by omega, by omega⟩) ?_; rintro ⟨nB2b, mB2b⟩) | skip); (first | (refine with_conv (cells3 hbB (g := wA.heap.size + 1) (a := .string ⟨#[]⟩) (b := .int .i64 0) (c := .slice none 0 0) (by first | (simp only [World.size_alloc, World.size_drew]; omega) | omega) (by first | assumption | (simp [go_sem]; done)) (by first | assumption | (simp [go_sem]; done)) (by first | assumption | (simp [go_sem]; done)) (by first | assumption | (simp [go_sem]; done)) (by first | assumption | (simp [go_sem]; done)) (by first | assumption | (simp [go_sem]; done))) ?_; rintro ⟨⟨⟨qB3x, qB3y, qB3z⟩, fB3x, fB3y, fB3z⟩, ⟨qB3u, qB3v, qB3w⟩, fB3u, fB3v, fB3w⟩) | skip); (first | (refine with_conv (show wA.heap.size + 1 ≠ wB.heap.size ∧ wB.heap.size ≠ wA.heap.size + 1 from ⟨by omega, by omega⟩) ?_; rintro ⟨nB3a, mB3a⟩) | skip); (first | (refine with_conv (show wA.heap.size + 1 ≠ wB.heap.size + 1 ∧ wB.heap.size + 1 ≠ wA.heap.size + 1 from ⟨by omega, by omega⟩) ?_; rintro ⟨nB3b, mB3b⟩) | skip)))
        all_goals (refine NoPanic.normal ?_)
        · generalize hg2 : wB.heap.size + 1 = g2
          generalize hg1 : wB.heap.size = g1
          refine ⟨rfl, g1, g2, A1, c1, A2, c2, rfl, ?_⟩
          subst hg2
          subst hg1
          first
            | (with_reducible refine with_box (boxes_done _ _ _ _ _ _ _ _ _ _ _ _ _ (by omega) (by (try simp only [World.size_alloc]); omega) (by (try simp only [World.size_alloc]); omega) ?_ ?_ ?_ ?_ ?_ ?_) (hA _ ?_) (hB _ ?_) ?_
               iterate 6 (focus (first | exact ⟨_, by with_reducible assumption⟩ | exact ⟨_, by with_reducible exact qB0u _⟩ | exact ⟨_, by with_reducible exact qB0v _⟩ | exact ⟨_, by with_reducible exact qB0w _⟩ | exact ⟨_, by with_reducible exact qB1u _⟩ | exact ⟨_, by with_reducible exact qB1v _⟩ | exact ⟨_, by with_reducible exact qB1w _⟩ | exact ⟨_, by with_reducible exact qB2u _⟩ | exact ⟨_, by with_reducible exact qB2v _⟩ | exact ⟨_, by with_reducible exact qB2w _⟩ | exact ⟨_, by with_reducible exact qB3u _⟩ | exact ⟨_, by with_reducible exact qB3v _⟩ | exact ⟨_, by with_reducible exact qB3w _⟩ | exact ⟨_, (Row.new _ _ _).cell 0 (by simp)⟩ | exact ⟨_, (Row.new _ _ _).cell 1 (by simp)⟩ | exact ⟨_, (Row.new _ _ _).cell 2 (by simp)⟩))
               iterate 2 (focus ((first | (with_reducible rw [heap_set3 _ _ _ _ _ _ (by omega), heap_set3 _ _ _ _ _ _ (by omega)]) | (with_reducible rw [heap_set3 _ _ _ _ _ _ (by omega)]) | skip); (repeat (first | with_reducible rw [Below.heap_alloc _ _ _ (by (try simp only [World.size_alloc]); omega)] | with_reducible rw [hbB.block _ (by (try simp only [World.size_alloc]); omega)]))))
               (with_reducible refine bSet3 (bSet3 ?_ (by omega) _ _ _) (by omega) _ _ _)
               (repeat (first | (with_reducible exact Below.refl _ _) | (with_reducible assumption) | (with_reducible refine bAlloc ?_ _) | (with_reducible refine Below.drew ?_) | (with_reducible refine below_chain ?_ (by with_reducible assumption)))))
            | (with_reducible refine with_box (boxes_lit _ _ _ _ _ _ _ _ _ _ _) (hA _ ?_) (hB _ ?_) ?_
               iterate 2 (focus ((first | (with_reducible rw [heap_set3 _ _ _ _ _ _ (by omega), heap_set3 _ _ _ _ _ _ (by omega)]) | (with_reducible rw [heap_set3 _ _ _ _ _ _ (by omega)]) | skip); (repeat (first | with_reducible rw [Below.heap_alloc _ _ _ (by (try simp only [World.size_alloc]); omega)] | with_reducible rw [hbB.block _ (by (try simp only [World.size_alloc]); omega)]))))
               (repeat (first | (with_reducible exact Below.refl _ _) | (with_reducible assumption) | (with_reducible refine bAlloc ?_ _) | (with_reducible refine Below.drew ?_) | (with_reducible refine below_chain ?_ (by with_reducible assumption)))))
            | (with_reducible refine with_box (boxes_lit' _ _ _ _ _ _ _ _ _ _ _) (hA _ ?_) (hB _ ?_) ?_
               iterate 2 (focus ((first | (with_reducible rw [heap_set3 _ _ _ _ _ _ (by omega), heap_set3 _ _ _ _ _ _ (by omega)]) | (with_reducible rw [heap_set3 _ _ _ _ _ _ (by omega)]) | skip); (repeat (first | with_reducible rw [Below.heap_alloc _ _ _ (by (try simp only [World.size_alloc]); omega)] | with_reducible rw [hbB.block _ (by (try simp only [World.size_alloc]); omega)]))))
               (repeat (first | (with_reducible exact Below.refl _ _) | (with_reducible assumption) | (with_reducible refine bAlloc ?_ _) | (with_reducible refine Below.drew ?_) | (with_reducible refine below_chain ?_ (by with_reducible assumption)))))
            | (with_reducible refine with_box (boxes_mix _ _ _ _ _ _ _ _ _ _ _ _ (by omega) ?_ ?_ ?_) (hA _ ?_) (hB _ ?_) ?_
               iterate 3 (focus (first | exact ⟨_, by with_reducible assumption⟩ | exact ⟨_, by with_reducible exact qB0u _⟩ | exact ⟨_, by with_reducible exact qB0v _⟩ | exact ⟨_, by with_reducible exact qB0w _⟩ | exact ⟨_, by with_reducible exact qB1u _⟩ | exact ⟨_, by with_reducible exact qB1v _⟩ | exact ⟨_, by with_reducible exact qB1w _⟩ | exact ⟨_, by with_reducible exact qB2u _⟩ | exact ⟨_, by with_reducible exact qB2v _⟩ | exact ⟨_, by with_reducible exact qB2w _⟩ | exact ⟨_, by with_reducible exact qB3u _⟩ | exact ⟨_, by with_reducible exact qB3v _⟩ | exact ⟨_, by with_reducible exact qB3w _⟩ | exact ⟨_, (Row.new _ _ _).cell 0 (by simp)⟩ | exact ⟨_, (Row.new _ _ _).cell 1 (by simp)⟩ | exact ⟨_, (Row.new _ _ _).cell 2 (by simp)⟩))
               iterate 2 (focus ((first | (with_reducible rw [heap_set3 _ _ _ _ _ _ (by omega), heap_set3 _ _ _ _ _ _ (by omega)]) | (with_reducible rw [heap_set3 _ _ _ _ _ _ (by omega)]) | skip); (repeat (first | with_reducible rw [Below.heap_alloc _ _ _ (by (try simp only [World.size_alloc]); omega)] | with_reducible rw [hbB.block _ (by (try simp only [World.size_alloc]); omega)]))))
               (with_reducible refine bSet3 ?_ (by omega) _ _ _)
               (repeat (first | (with_reducible exact Below.refl _ _) | (with_reducible assumption) | (with_reducible refine bAlloc ?_ _) | (with_reducible refine Below.drew ?_) | (with_reducible refine below_chain ?_ (by with_reducible assumption)))))
            | (with_reducible refine with_box (boxes_mix' _ _ _ _ _ _ _ _ _ _ _ _ (by omega) ?_ ?_ ?_) (hA _ ?_) (hB _ ?_) ?_
               iterate 3 (focus (first | exact ⟨_, by with_reducible assumption⟩ | exact ⟨_, by with_reducible exact qB0u _⟩ | exact ⟨_, by with_reducible exact qB0v _⟩ | exact ⟨_, by with_reducible exact qB0w _⟩ | exact ⟨_, by with_reducible exact qB1u _⟩ | exact ⟨_, by with_reducible exact qB1v _⟩ | exact ⟨_, by with_reducible exact qB1w _⟩ | exact ⟨_, by with_reducible exact qB2u _⟩ | exact ⟨_, by with_reducible exact qB2v _⟩ | exact ⟨_, by with_reducible exact qB2w _⟩ | exact ⟨_, by with_reducible exact qB3u _⟩ | exact ⟨_, by with_reducible exact qB3v _⟩ | exact ⟨_, by with_reducible exact qB3w _⟩ | exact ⟨_, (Row.new _ _ _).cell 0 (by simp)⟩ | exact ⟨_, (Row.new _ _ _).cell 1 (by simp)⟩ | exact ⟨_, (Row.new _ _ _).cell 2 (by simp)⟩))
               iterate 2 (focus ((first | (with_reducible rw [heap_set3 _ _ _ _ _ _ (by omega), heap_set3 _ _ _ _ _ _ (by omega)]) | (with_reducible rw [heap_set3 _ _ _ _ _ _ (by omega)]) | skip); (repeat (first | with_reducible rw [Below.heap_alloc _ _ _ (by (try simp only [World.size_alloc]); omega)] | with_reducible rw [hbB.block _ (by (try simp only [World.size_alloc]); omega)]))))
               (with_reducible refine bSet3 ?_ (by omega) _ _ _)
               (repeat (first | (with_reducible exact Below.refl _ _) | (with_reducible assumption) | (with_reducible refine bAlloc ?_ _) | (with_reducible refine Below.drew ?_) | (with_reducible refine below_chain ?_ (by with_reducible assumption)))))
        all_goals (refine ⟨rfl, _, _, _, _, _, _, rfl, ?_⟩)
        all_goals first
          | (with_reducible refine with_box (boxes_done _ _ _ _ _ _ _ _ _ _ _ _ _ (by omega) (by (try simp only [World.size_alloc]); omega) (by (try simp only [World.size_alloc]); omega) ?_ ?_ ?_ ?_ ?_ ?_) (hA _ ?_) (hB _ ?_) ?_
             iterate 6 (focus (first | exact ⟨_, by with_reducible assumption⟩ | exact ⟨_, by with_reducible exact qB0u _⟩ | exact ⟨_, by with_reducible exact qB0v _⟩ | exact ⟨_, by with_reducible exact qB0w _⟩ | exact ⟨_, by with_reducible exact qB1u _⟩ | exact ⟨_, by with_reducible exact qB1v _⟩ | exact ⟨_, by with_reducible exact qB1w _⟩ | exact ⟨_, by with_reducible exact qB2u _⟩ | exact ⟨_, by with_reducible exact qB2v _⟩ | exact ⟨_, by with_reducible exact qB2w _⟩ | exact ⟨_, by with_reducible exact qB3u _⟩ | exact ⟨_, by with_reducible exact qB3v _⟩ | exact ⟨_, by with_reducible exact qB3w _⟩ | exact ⟨_, (Row.new _ _ _).cell 0 (by simp)⟩ | exact ⟨_, (Row.new _ _ _).cell 1 (by simp)⟩ | exact ⟨_, (Row.new _ _ _).cell 2 (by simp)⟩))
             iterate 2 (focus ((first | (with_reducible rw [heap_set3 _ _ _ _ _ _ (by omega), heap_set3 _ _ _ _ _ _ (by omega)]) | (with_reducible rw [heap_set3 _ _ _ _ _ _ (by omega)]) | skip); (repeat (first | with_reducible rw [Below.heap_alloc _ _ _ (by (try simp only [World.size_alloc]); omega)] | with_reducible rw [hbB.block _ (by (try simp only [World.size_alloc]); omega)]))))
             (with_reducible refine bSet3 (bSet3 ?_ (by omega) _ _ _) (by omega) _ _ _)
             (repeat (first | (with_reducible exact Below.refl _ _) | (with_reducible assumption) | (with_reducible refine bAlloc ?_ _) | (with_reducible refine Below.drew ?_) | (with_reducible refine below_chain ?_ (by with_reducible assumption)))))
          | (with_reducible refine with_box (boxes_lit _ _ _ _ _ _ _ _ _ _ _) (hA _ ?_) (hB _ ?_) ?_
             iterate 2 (focus ((first | (with_reducible rw [heap_set3 _ _ _ _ _ _ (by omega), heap_set3 _ _ _ _ _ _ (by omega)]) | (with_reducible rw [heap_set3 _ _ _ _ _ _ (by omega)]) | skip); (repeat (first | with_reducible rw [Below.heap_alloc _ _ _ (by (try simp only [World.size_alloc]); omega)] | with_reducible rw [hbB.block _ (by (try simp only [World.size_alloc]); omega)]))))
             (repeat (first | (with_reducible exact Below.refl _ _) | (with_reducible assumption) | (with_reducible refine bAlloc ?_ _) | (with_reducible refine Below.drew ?_) | (with_reducible refine below_chain ?_ (by with_reducible assumption)))))
          | (with_reducible refine with_box (boxes_lit' _ _ _ _ _ _ _ _ _ _ _) (hA _ ?_) (hB _ ?_) ?_
             iterate 2 (focus ((first | (with_reducible rw [heap_set3 _ _ _ _ _ _ (by omega), heap_set3 _ _ _ _ _ _ (by omega)]) | (with_reducible rw [heap_set3 _ _ _ _ _ _ (by omega)]) | skip); (repeat (first | with_reducible rw [Below.heap_alloc _ _ _ (by (try simp only [World.size_alloc]); omega)] | with_reducible rw [hbB.block _ (by (try simp only [World.size_alloc]); omega)]))))
             (repeat (first | (with_reducible exact Below.refl _ _) | (with_reducible assumption) | (with_reducible refine bAlloc ?_ _) | (with_reducible refine Below.drew ?_) | (with_reducible refine below_chain ?_ (by with_reducible assumption)))))
          | (with_reducible refine with_box (boxes_mix _ _ _ _ _ _ _ _ _ _ _ _ (by omega) ?_ ?_ ?_) (hA _ ?_) (hB _ ?_) ?_
             iterate 3 (focus (first | exact ⟨_, by with_reducible assumption⟩ | exact ⟨_, by with_reducible exact qB0u _⟩ | exact ⟨_, by with_reducible exact qB0v _⟩ | exact ⟨_, by with_reducible exact qB0w _⟩ | exact ⟨_, by with_reducible exact qB1u _⟩ | exact ⟨_, by with_reducible exact qB1v _⟩ | exact ⟨_, by with_reducible exact qB1w _⟩ | exact ⟨_, by with_reducible exact qB2u _⟩ | exact ⟨_, by with_reducible exact qB2v _⟩ | exact ⟨_, by with_reducible exact qB2w _⟩ | exact ⟨_, by with_reducible exact qB3u _⟩ | exact ⟨_, by with_reducible exact qB3v _⟩ | exact ⟨_, by with_reducible exact qB3w _⟩ | exact ⟨_, (Row.new _ _ _).cell 0 (by simp)⟩ | exact ⟨_, (Row.new _ _ _).cell 1 (by simp)⟩ | exact ⟨_, (Row.new _ _ _).cell 2 (by simp)⟩))
             iterate 2 (focus ((first | (with_reducible rw [heap_set3 _ _ _ _ _ _ (by omega), heap_set3 _ _ _ _ _ _ (by omega)]) | (with_reducible rw [heap_set3 _ _ _ _ _ _ (by omega)]) | skip); (repeat (first | with_reducible rw [Below.heap_alloc _ _ _ (by (try simp only [World.size_alloc]); omega)] | with_reducible rw [hbB.block _ (by (try simp only [World.size_alloc]); omega)]))))
             (with_reducible refine bSet3 ?_ (by omega) _ _ _)
             (repeat (first | (with_reducible exact Below.refl _ _) | (with_reducible assumption) | (with_reducible refine bAlloc ?_ _) | (with_reducible refine Below.drew ?_) | (with_reducible refine below_chain ?_ (by with_reducible assumption)))))
          | (with_reducible refine with_box (boxes_mix' _ _ _ _ _ _ _ _ _ _ _ _ (by omega) ?_ ?_ ?_) (hA _ ?_) (hB _ ?_) ?_
             iterate 3 (focus (first | exact ⟨_, by with_reducible assumption⟩ | exact ⟨_, by with_reducible exact qB0u _⟩ | exact ⟨_, by with_reducible exact qB0v _⟩ | exact ⟨_, by with_reducible exact qB0w _⟩ | exact ⟨_, by with_reducible exact qB1u _⟩ | exact ⟨_, by with_reducible exact qB1v _⟩ | exact ⟨_, by with_reducible exact qB1w _⟩ | exact ⟨_, by with_reducible exact qB2u _⟩ | exact ⟨_, by with_reducible exact qB2v _⟩ | exact ⟨_, by with_reducible exact qB2w _⟩ | exact ⟨_, by with_reducible exact qB3u _⟩ | exact ⟨_, by with_reducible exact qB3v _⟩ | exact ⟨_, by with_reducible exact qB3w _⟩ | exact ⟨_, (Row.new _ _ _).cell 0 (by simp)⟩ | exact ⟨_, (Row.new _ _ _).cell 1 (by simp)⟩ | exact ⟨_, (Row.new _ _ _).cell 2 (by simp)⟩))
             iterate 2 (focus ((first | (with_reducible rw [heap_set3 _ _ _ _ _ _ (by omega), heap_set3 _ _ _ _ _ _ (by omega)]) | (with_reducible rw [heap_set3 _ _ _ _ _ _ (by omega)]) | skip); (repeat (first | with_reducible rw [Below.heap_alloc _ _ _ (by (try simp only [World.size_alloc]); omega)] | with_reducible rw [hbB.block _ (by (try simp only [World.size_alloc]); omega)]))))
             (with_reducible refine bSet3 ?_ (by omega) _ _ _)
             (repeat (first | (with_reducible exact Below.refl _ _) | (with_reducible assumption) | (with_reducible refine bAlloc ?_ _) | (with_reducible refine Below.drew ?_) | (with_reducible refine below_chain ?_ (by with_reducible assumption)))))
      · rintro g g' A1 c1 A2 c2 w3 ⟨E1, E2, B1, B2, hb3⟩
        have hbW := below_chain hbw hb3
        obtain ⟨y, hy⟩ : ∃ y, checkB (s, f, l) = y := ⟨_, rfl⟩
        obtain ⟨pt, hpt⟩ : ∃ p, bs (putB (s, f, l)) = p := ⟨_, rfl⟩
        obtain ⟨sm, hsm⟩ : ∃ p, decide (((s, f, l) : Bat) = (s', f', l')) = p := ⟨_, rfl⟩
        have k1 := fun w' (h : Below w3.heap.size w3 w') => batches_Check _ _ w' (B1.next h)
        have k2 := fun w' (h : Below w3.heap.size w3 w') => refB_Check _ _ w' (B1.next h)
        have k3 := fun w' (h : Below w3.heap.size w3 w') => batches_Same _ _ _ _ w' (B1.next h) (B2.next h)
        have k4 := fun w' (h : Below w3.heap.size w3 w') => refB_Same _ _ _ _ w' (B1.next h) (B2.next h)
        have k5 := fun v w' (h : Below w3.heap.size w3 w') (hv : BatV w' v (s, f, l)) => refB_Same _ _ _ _ w' (B1.next h) hv
        have k6 := batches_Put _ _ w3 B1
        have k7 := fun v w' (hv : BatV w' v (s, f, l)) => refB_Put v (s, f, l) w' hv
        have k8 := fun w' (h : Below w3.heap.size w3 w') => ca w' (below_chain hb3 h)
        have k9 := law_batched
        have e1 : decide (((s, f, l) : Bat) = (s, f, l)) = true := by simp
        rw [hy] at k1 k2 k6
        simp only [hy, hpt] at k7
        rw [hpt] at k6
        rw [hsm] at k3 k4
        simp only [e1] at k5
        have e2 : (y == y) = true := by simp
        have e3 : decide (pt = pt) = true := by simp
        have e4 : (sm == sm) = true := by simp
        have HS3 := Lib.hid (show ∀ w', Below w3.heap.size w3 w' → w'.cell? ⟨g, 0, none⟩ = some (.string s) ∧ w'.cell? ⟨g, 1, none⟩ = some (.int .i64 f) ∧ w'.cell? ⟨g, 2, none⟩ = some (.slice A1 l.length c1) ∧ w'.cell? ⟨g', 0, none⟩ = some (.string s') ∧ w'.cell? ⟨g', 1, none⟩ = some (.int .i64 f') ∧ w'.cell? ⟨g', 2, none⟩ = some (.slice A2 l'.length c2) ∧ w'.cell? ⟨G, 0, none⟩ = some (.string s) ∧ w'.cell? ⟨G, 1, none⟩ = some (.int .i64 f) ∧ w'.cell? ⟨G, 2, none⟩ = some (.slice A l.length c) from fun w' hb => by
          obtain ⟨-, x0, x1, x2⟩ := E1.next hb
          obtain ⟨-, y0, y1, y2⟩ := E2.next hb
          obtain ⟨z0, z1, z2, -⟩ := HS.out w' (below_chain hb3 hb)
          exact ⟨x0, x1, x2, y0, y1, y2, z0, z1, z2⟩)
        have K3 := Lib.hid hbW
        clear hy hpt hsm E1 E2 B1 B2 ca cb ha2 hb2' p0 p1 p2 q0 q1 q2 HS hbw hbW hb3 ga1 ga2 gb1 gb2
        obtain ⟨x0, x1, x2, -, -, -, -, -, -⟩ := HS3.out w3 (Below.refl _ _)
        go_wp2_with fail
        refine k6.mono ?_
        rintro e w4 ⟨rfl, hb4⟩
        clear x0 x1 x2 k6
        obtain ⟨-, -, -, -, -, -, x0, x1, x2⟩ := HS3.out w4 hb4
        go_wp2_with fail
        refine (k8 w4 hb4).mono ?_
        rintro e w5 ⟨A5, c5, rfl, ⟨K5, -, -, hl5⟩, hb5⟩
        have hv5 := hl5 w5 rfl
        clear x0 x1 x2 hl5
        go_wp2_with fail
        refine (k7 _ w5 hv5).mono ?_
        rintro e w6 ⟨rfl, hb6⟩
        have hb36 := below_chain (below_chain hb4 hb5) hb6
        clear hb4 hb5 hb6 hv5 k7
        go_wp2_with fail
        refine wp_region_noPanic ?_
        go_region_held_law (fun w' => w'.cell? ⟨g, 0, none⟩ = some (.string s) ∧ w'.cell? ⟨g, 1, none⟩ = some (.int .i64 f) ∧ w'.cell? ⟨g, 2, none⟩ = some (.slice A1 l.length c1) ∧ w'.cell? ⟨g', 0, none⟩ = some (.string s') ∧ w'.cell? ⟨g', 1, none⟩ = some (.int .i64 f') ∧ w'.cell? ⟨g', 2, none⟩ = some (.slice A2 l'.length c2) ∧ w'.cell? ⟨G, 0, none⟩ = some (.string s) ∧ w'.cell? ⟨G, 1, none⟩ = some (.int .i64 f) ∧ w'.cell? ⟨G, 2, none⟩ = some (.slice A l.length c))
          ((refine HS3.out _ ?_; repeat (first | (with_reducible exact Below.refl _ _) | (with_reducible assumption) | (with_reducible refine Below.drew ?_) | (with_reducible refine below_chain ?_ (by with_reducible assumption)))))
          (first
            | (go_at_call 33; (with_reducible refine (k1 _ (by repeat (first | (with_reducible exact Below.refl _ _) | (with_reducible assumption) | (with_reducible refine Below.drew ?_) | (with_reducible refine below_chain ?_ (by with_reducible assumption))))).mono ?_); rintro e wA ⟨rfl, hbA⟩)
            | (go_at_call 34; (with_reducible refine (k2 _ (by repeat (first | (with_reducible exact Below.refl _ _) | (with_reducible assumption) | (with_reducible refine Below.drew ?_) | (with_reducible refine below_chain ?_ (by with_reducible assumption))))).mono ?_); rintro e wB ⟨rfl, hbB⟩)
            | (go_at_call 35; (with_reducible refine (k3 _ (by repeat (first | (with_reducible exact Below.refl _ _) | (with_reducible assumption) | (with_reducible refine Below.drew ?_) | (with_reducible refine below_chain ?_ (by with_reducible assumption))))).mono ?_); rintro e wC ⟨rfl, hbC⟩)
            | (go_at_call 30; (with_reducible refine (k8 _ (by repeat (first | (with_reducible exact Below.refl _ _) | (with_reducible assumption) | (with_reducible refine Below.drew ?_) | (with_reducible refine below_chain ?_ (by with_reducible assumption))))).mono ?_); rintro e wD ⟨A6, c6, rfl, ⟨K6, i6, j6, hl6⟩, hbD⟩; have hv6 := hl6 wD rfl)
            | (go_at_call 36; (with_reducible refine (k4 _ (by repeat (first | (with_reducible exact Below.refl _ _) | (with_reducible assumption) | (with_reducible refine Below.drew ?_) | (with_reducible refine below_chain ?_ (by with_reducible assumption))))).mono ?_); rintro e wE ⟨rfl, hbE⟩)
            | (go_at_call 36; (with_reducible refine (k5 _ _ (by repeat (first | (with_reducible exact Below.refl _ _) | (with_reducible assumption) | (with_reducible refine Below.drew ?_) | (with_reducible refine below_chain ?_ (by with_reducible assumption)))) (by with_reducible assumption)).mono ?_); rintro e wF ⟨rfl, hbF⟩)
            | (go_at_call 29; (with_reducible refine (k9 _).mono ?_); rintro e wG ⟨rfl, hbG⟩))
        all_goals (refine NoPanic.normal ?_)
        all_goals go_wp2
        all_goals go_ret
        all_goals (refine ⟨rfl, below_chain K3.out ?_⟩; repeat (first | (with_reducible exact Below.refl _ _) | (with_reducible assumption) | (with_reducible refine Below.drew ?_) | (with_reducible refine below_chain ?_ (by with_reducible assumption))))
    · clear ga gb
      go_enter Try.func9, Try.ntmps9
      go_wp2_with fail
      generalize (w.alloc (.cells #[.string s, .int .i64 f, .slice A l.length c] 47)).alloc (.cells #[.string s', .int .i64 f', .slice A' l'.length c'] 47) = w0 at hz R0 R1 ra rb ⊢
      refine ra.mono ?_
      rintro e w1 ⟨rfl, hb1⟩
      obtain ⟨q0, q1, q2, -, -, -⟩ := row_agg (R1.next hb1)
      go_wp2_with fail
      refine (rb _ hb1).mono ?_
      rintro e w2 ⟨rfl, hb2⟩
      go_wp2_with fail
      refine (law_batched _).mono ?_
      rintro e w3 ⟨rfl, hb3⟩
      go_wp2
      go_ret
      exact ⟨rfl, below_chain hz (below_chain hb1 (below_chain hb2 hb3))⟩
  · clear ga gb
    go_enter Try.func9, Try.ntmps9
    go_wp2_with fail
    refine ra.mono ?_
    rintro e w1 ⟨rfl, hb1⟩
    go_wp2_with fail
    refine (law_batched _).mono ?_
    rintro e w3 ⟨rfl, hb3⟩
    go_wp2
    go_ret
    exact ⟨rfl, below_chain hz (below_chain hb1 hb3)⟩
end Go.Proofs.Ytiojapjidgjaoaa
