/-
  Rows.EventsTellSaid: what is wrong with any event, and its bytes, and whether two are the same, is the document's.
-/
import Derived.Test.YtiojapjidgjaoaaEvRef
import Derived.Test.YtiojapjidgjaoaaHappened
namespace Go.Proofs.Ytiojapjidgjaoaa
open Go.RowKit
set_option linter.unusedVariables false

/-- A region whose orders all come to one end, but for a value that they make. -/
theorem wp_meetE {α : Type} {P : Program} {c : Code} {Q : Exit → Act → World → Prop} {a : Act} {w : World} (R : α → World → Prop) (A : α → Act) (h1 : c.wp P (fun e a' w' => e = .normal ∧ ∃ x, a' = A x ∧ R x w') a w) (h2 : ∀ x w', R x w' → Q .normal (A x) w') : c.wp P Q a w :=
  Code.wp_mono (fun e a' w' h => by obtain ⟨rfl, x, rfl, h⟩ := h; exact h2 x w' h) h1
theorem wp_meetE2 {P : Program} {c : Code} {Q : Exit → Act → World → Prop} {a : Act} {w : World} (R : Nat → Nat → World → Prop) (A : Nat → Nat → Act) (h1 : c.wp P (fun e a' w' => e = .normal ∧ ∃ x y, a' = A x y ∧ R x y w') a w) (h2 : ∀ x y w', R x y w' → Q .normal (A x y) w') : c.wp P Q a w :=
  Code.wp_mono (fun e a' w' h => by obtain ⟨rfl, x, y, rfl, h⟩ := h; exact h2 x y w' h) h1
theorem bAlloc {a w : World} (h : Below a.heap.size a w) (o : Obj) : Below a.heap.size a (w.alloc o) := h.alloc h.size o
theorem bSet {a w : World} (h : Below a.heap.size a w) {p : Addr} (hp : a.heap.size ≤ p.block) (v : Value) : Below a.heap.size a (w.setCell p v) := h.setCell hp v
/-- At block g an event lies. -/
def EvAt (w : World) (g : Nat) (e : Ev) : Prop := g < w.heap.size ∧ w.cell? ⟨g, 0, none⟩ = some (.string e.1) ∧ w.cell? ⟨g, 1, none⟩ = some (.string e.2.1) ∧ w.cell? ⟨g, 2, none⟩ = some (.float .f64 e.2.2)
theorem EvAt.next {w w' : World} {g : Nat} {e : Ev} (h : EvAt w g e) (hb : Below w.heap.size w w') : EvAt w' g e :=
  ⟨Nat.lt_of_lt_of_le h.1 hb.size, (hb.cell (p := ⟨g, 0, none⟩) h.1).trans h.2.1, (hb.cell (p := ⟨g, 1, none⟩) h.1).trans h.2.2.1, (hb.cell (p := ⟨g, 2, none⟩) h.1).trans h.2.2.2⟩

set_option maxHeartbeats 4000000 in
theorem EventsTell_walk (v0 : Value) (a : Ev) (v1 : Value) (b : Ev) (w : World) (ha : RawIs v0 a) (hb : RawIs v1 b) :
    Calls Try.prog 3 #[v0, v1] w fun e w' => e = .returned (.bool true) ∧ Below w.heap.size w w' := by
  obtain ⟨rfl, oa⟩ := ha
  obtain ⟨rfl, ob⟩ := hb
  have ga := fun w => raw_Great a w oa
  have gb := fun w => raw_Great b w ob
  have ka := fun w => events_Check a w oa
  have kb := fun w => ref_Check a w oa
  have ya := fun w => events_Bytes a w oa
  have yb := fun w => ref_Bytes a w oa
  have sa := fun w => events_Same a b w oa ob
  have sb := fun w => ref_Same a b w oa ob
  have sx := fun w => events_Same a a w oa oa
  rw [decide_eq_true (show a = a from rfl)] at sx
  obtain ⟨t, d, n⟩ := a
  obtain ⟨t', d', n'⟩ := b
  unfold rawC at ga gb ⊢
  unfold evC at ka kb ya yb sa sb sx
  simp only [] at ga gb ka kb ya yb sa sb sx ⊢
  generalize checkV (t, d, n) = c at ka kb
  generalize bytesV (t, d, n) = y at ya yb
  generalize decide ((t, d, n) = (t', d', n')) = sm at sa sb
  generalize greatV (t, d, n) = gra at ga
  generalize greatV (t', d', n') = grb at gb
  have hz := lit2_below' w (.cells #[.string t, .string d, .int .u64 (n : Nat)] 24) (.cells #[.string t', .string d', .int .u64 (n' : Nat)] 24)
  rcases gra with _ | _
  · rcases grb with _ | _
    · go_enter Try.func3, Try.ntmps3
      go_wp2_with fail
      have R0 : Row (((w.alloc (.cells #[.string t, .string d, .int .u64 (n : Nat)] 24)).alloc (.cells #[.string t', .string d', .int .u64 (n' : Nat)] 24))) w.heap.size 24 [.string t, .string d, .int .u64 (n : Nat)] := (Row.new w #[.string t, .string d, .int .u64 (n : Nat)] _).alloc _
      have R1 : Row (((w.alloc (.cells #[.string t, .string d, .int .u64 (n : Nat)] 24)).alloc (.cells #[.string t', .string d', .int .u64 (n' : Nat)] 24))) (w.heap.size + 1) 24 [.string t', .string d', .int .u64 (n' : Nat)] := by
        have h := Row.new (w.alloc (.cells #[.string t, .string d, .int .u64 (n : Nat)] 24)) #[.string t', .string d', .int .u64 (n' : Nat)] 24
        have e : (w.alloc (.cells #[.string t, .string d, .int .u64 (n : Nat)] 24)).heap.size = w.heap.size + 1 := by simp
        rw [e] at h; exact h
      generalize (w.alloc (.cells #[.string t, .string d, .int .u64 (n : Nat)] 24)).alloc (.cells #[.string t', .string d', .int .u64 (n' : Nat)] 24) = w0 at hz R0 R1 ⊢
      refine (ga _).mono ?_
      rintro e w1 ⟨rfl, hb1⟩
      have R11 := R1.next hb1
      have q0 := R11.cell 0 (by simp)
      have q1 := R11.cell 1 (by simp)
      have q2 := R11.cell 2 (by simp)
      simp only [List.getElem_cons_zero, List.getElem_cons_succ] at q0 q1 q2
      go_wp2_with fail
      refine (gb _).mono ?_
      rintro e w2 ⟨rfl, hb2⟩
      have hb02 := below_chain hb1 hb2
      have R02 := R0.next hb02
      have R12 := R1.next hb02
      clear q0 q1 q2 R11 R0 R1 ga gb hb1 hb2
      have p0 := R02.cell 0 (by simp)
      have p1 := R02.cell 1 (by simp)
      have p2 := R02.cell 2 (by simp)
      have q0 := R12.cell 0 (by simp)
      have q1 := R12.cell 1 (by simp)
      have q2 := R12.cell 2 (by simp)
      simp only [List.getElem_cons_zero, List.getElem_cons_succ] at p0 p1 p2 q0 q1 q2
      have lt1 := R12.lt
      have lt0 := R02.lt
      have hb2 := below_chain hz hb02
      obtain ⟨G, hG⟩ : ∃ G, G = w.heap.size := ⟨_, rfl⟩
      obtain ⟨G', hG'⟩ : ∃ G, G = w.heap.size + 1 := ⟨_, rfl⟩
      go_wp2_with fail
      rw [← hG'] at q0 q1 q2 lt1 R12 ⊢
      rw [← hG] at p0 p1 p2 lt0 R02 ⊢
      have i1 := World.new_ne w2 _ p0
      have i2 := World.new_ne w2 _ q0
      have HG := Lib.hid hG
      have HG' := Lib.hid hG'
      have Kab := Lib.hid (And.intro ka (And.intro kb (And.intro ya (And.intro yb (And.intro sa (And.intro sb sx))))))
      clear hG hG' ka kb ya yb sa sb sx
      have HS := Lib.hid (show ∀ w', Below w2.heap.size w2 w' → w'.cell? ⟨G, 0, none⟩ = some (.string t) ∧ w'.cell? ⟨G, 1, none⟩ = some (.string d) ∧ w'.cell? ⟨G, 2, none⟩ = some (.int .u64 (n : Nat)) ∧ w'.cell? ⟨G', 0, none⟩ = some (.string t') ∧ w'.cell? ⟨G', 1, none⟩ = some (.string d') ∧ w'.cell? ⟨G', 2, none⟩ = some (.int .u64 (n' : Nat)) from fun w' hb =>
        ⟨(hb.cell (p := ⟨G, 0, none⟩) lt0).trans p0, (hb.cell (p := ⟨G, 1, none⟩) lt0).trans p1, (hb.cell (p := ⟨G, 2, none⟩) lt0).trans p2, (hb.cell (p := ⟨G', 0, none⟩) lt1).trans q0, (hb.cell (p := ⟨G', 1, none⟩) lt1).trans q1, (hb.cell (p := ⟨G', 2, none⟩) lt1).trans q2⟩)
      clear i1 i2 lt0 lt1 R02 R12
      apply wp_meetE2 (fun g g' w' => EvAt w' g (t, d, n) ∧ EvAt w' g' (t', d', n') ∧ Below w2.heap.size w2 w')
      · go_region_held3 (fun w' => w'.cell? ⟨G, 0, none⟩ = some (.string t) ∧ w'.cell? ⟨G, 1, none⟩ = some (.string d) ∧ w'.cell? ⟨G, 2, none⟩ = some (.int .u64 (n : Nat)) ∧ w'.cell? ⟨G', 0, none⟩ = some (.string t') ∧ w'.cell? ⟨G', 1, none⟩ = some (.string d') ∧ w'.cell? ⟨G', 2, none⟩ = some (.int .u64 (n' : Nat))) ((refine HS.out _ ?_; repeat (first | exact Below.refl _ _ | refine Below.drew ?_ | refine bAlloc ?_ _ | refine bSet ?_ (by first | exact Nat.le_refl _ | exact Nat.le_add_right _ _) _)))
          (first | (go_at_call 16; with_reducible refine (raw_EventX t d n _).mono ?_; rintro e w' ⟨rfl, rfl⟩) | (go_at_call 16; with_reducible refine (raw_EventX t' d' n' _).mono ?_; rintro e w' ⟨rfl, rfl⟩))
        all_goals first
          | (obtain ⟨g1, h1⟩ : ∃ g, g = w2.heap.size + 1 + 1 + 1 + 1 := ⟨_, rfl⟩; obtain ⟨g2, h2⟩ : ∃ g, g = w2.heap.size + 1 + 1 + 1 + 1 + 1 := ⟨_, rfl⟩; rw [← h2, ← h1]; exact ⟨rfl, g1, g2, rfl, by rw [h1]; exact ⟨by first | (simp; done) | (simp; omega), by simp [go_sem], by simp [go_sem], by simp [go_sem]⟩, by rw [h2]; exact ⟨by first | (simp; done) | (simp; omega), by simp [go_sem], by simp [go_sem], by simp [go_sem]⟩, by subst h1; subst h2; repeat (first | exact Below.refl _ _ | refine Below.drew ?_ | refine bAlloc ?_ _)⟩)
          | (obtain ⟨g1, h1⟩ : ∃ g, g = w2.heap.size + 1 + 1 + 1 + 1 + 1 := ⟨_, rfl⟩; obtain ⟨g2, h2⟩ : ∃ g, g = w2.heap.size + 1 + 1 + 1 + 1 := ⟨_, rfl⟩; rw [← h1, ← h2]; exact ⟨rfl, g1, g2, rfl, by rw [h1]; exact ⟨by first | (simp; done) | (simp; omega), by simp [go_sem], by simp [go_sem], by simp [go_sem]⟩, by rw [h2]; exact ⟨by first | (simp; done) | (simp; omega), by simp [go_sem], by simp [go_sem], by simp [go_sem]⟩, by subst h1; subst h2; repeat (first | exact Below.refl _ _ | refine Below.drew ?_ | refine bAlloc ?_ _)⟩)
          | (obtain ⟨g1, h1⟩ : ∃ g, g = w2.heap.size + 1 + 1 := ⟨_, rfl⟩; obtain ⟨g2, h2⟩ : ∃ g, g = w2.heap.size + 1 + 1 + 1 + 1 + 1 := ⟨_, rfl⟩; rw [← h2, ← h1]; exact ⟨rfl, g1, g2, rfl, by rw [h1]; exact ⟨by first | (simp; done) | (simp; omega), by simp [go_sem], by simp [go_sem], by simp [go_sem]⟩, by rw [h2]; exact ⟨by first | (simp; done) | (simp; omega), by simp [go_sem], by simp [go_sem], by simp [go_sem]⟩, by subst h1; subst h2; repeat (first | exact Below.refl _ _ | refine Below.drew ?_ | refine bAlloc ?_ _)⟩)
          | (obtain ⟨g1, h1⟩ : ∃ g, g = w2.heap.size + 1 + 1 := ⟨_, rfl⟩; obtain ⟨g2, h2⟩ : ∃ g, g = w2.heap.size + 1 + 1 + 1 := ⟨_, rfl⟩; rw [← h2, ← h1]; exact ⟨rfl, g1, g2, rfl, by rw [h1]; exact ⟨by first | (simp; done) | (simp; omega), by simp [go_sem], by simp [go_sem], by simp [go_sem]⟩, by rw [h2]; exact ⟨by first | (simp; done) | (simp; omega), by simp [go_sem], by simp [go_sem], by simp [go_sem]⟩, by subst h1; subst h2; repeat (first | exact Below.refl _ _ | refine Below.drew ?_ | refine bAlloc ?_ _)⟩)
          | (obtain ⟨g1, h1⟩ : ∃ g, g = w2.heap.size + 1 + 1 + 1 + 1 + 1 := ⟨_, rfl⟩; obtain ⟨g2, h2⟩ : ∃ g, g = w2.heap.size + 1 + 1 := ⟨_, rfl⟩; rw [← h1, ← h2]; exact ⟨rfl, g1, g2, rfl, by rw [h1]; exact ⟨by first | (simp; done) | (simp; omega), by simp [go_sem], by simp [go_sem], by simp [go_sem]⟩, by rw [h2]; exact ⟨by first | (simp; done) | (simp; omega), by simp [go_sem], by simp [go_sem], by simp [go_sem]⟩, by subst h1; subst h2; repeat (first | exact Below.refl _ _ | refine Below.drew ?_ | refine bAlloc ?_ _)⟩)
          | (obtain ⟨g1, h1⟩ : ∃ g, g = w2.heap.size + 1 + 1 + 1 := ⟨_, rfl⟩; obtain ⟨g2, h2⟩ : ∃ g, g = w2.heap.size + 1 + 1 := ⟨_, rfl⟩; rw [← h1, ← h2]; exact ⟨rfl, g1, g2, rfl, by rw [h1]; exact ⟨by first | (simp; done) | (simp; omega), by simp [go_sem], by simp [go_sem], by simp [go_sem]⟩, by rw [h2]; exact ⟨by first | (simp; done) | (simp; omega), by simp [go_sem], by simp [go_sem], by simp [go_sem]⟩, by subst h1; subst h2; repeat (first | exact Below.refl _ _ | refine Below.drew ?_ | refine bAlloc ?_ _)⟩)
          | (obtain ⟨g1, h1⟩ : ∃ g, g = w2.heap.size := ⟨_, rfl⟩; obtain ⟨g2, h2⟩ : ∃ g, g = w2.heap.size + 1 + 1 + 1 + 1 + 1 := ⟨_, rfl⟩; rw [← h2, ← h1]; exact ⟨rfl, g1, g2, rfl, by rw [h1]; exact ⟨by first | (simp; done) | (simp; omega), by simp [go_sem], by simp [go_sem], by simp [go_sem]⟩, by rw [h2]; exact ⟨by first | (simp; done) | (simp; omega), by simp [go_sem], by simp [go_sem], by simp [go_sem]⟩, by subst h1; subst h2; repeat (first | exact Below.refl _ _ | refine Below.drew ?_ | refine bAlloc ?_ _)⟩)
          | (obtain ⟨g1, h1⟩ : ∃ g, g = w2.heap.size := ⟨_, rfl⟩; obtain ⟨g2, h2⟩ : ∃ g, g = w2.heap.size + 1 + 1 + 1 := ⟨_, rfl⟩; rw [← h2, ← h1]; exact ⟨rfl, g1, g2, rfl, by rw [h1]; exact ⟨by first | (simp; done) | (simp; omega), by simp [go_sem], by simp [go_sem], by simp [go_sem]⟩, by rw [h2]; exact ⟨by first | (simp; done) | (simp; omega), by simp [go_sem], by simp [go_sem], by simp [go_sem]⟩, by subst h1; subst h2; repeat (first | exact Below.refl _ _ | refine Below.drew ?_ | refine bAlloc ?_ _)⟩)
          | (obtain ⟨g1, h1⟩ : ∃ g, g = w2.heap.size := ⟨_, rfl⟩; obtain ⟨g2, h2⟩ : ∃ g, g = w2.heap.size + 1 := ⟨_, rfl⟩; rw [← h2, ← h1]; exact ⟨rfl, g1, g2, rfl, by rw [h1]; exact ⟨by first | (simp; done) | (simp; omega), by simp [go_sem], by simp [go_sem], by simp [go_sem]⟩, by rw [h2]; exact ⟨by first | (simp; done) | (simp; omega), by simp [go_sem], by simp [go_sem], by simp [go_sem]⟩, by subst h1; subst h2; repeat (first | exact Below.refl _ _ | refine Below.drew ?_ | refine bAlloc ?_ _)⟩)
          | (obtain ⟨g1, h1⟩ : ∃ g, g = w2.heap.size + 1 + 1 + 1 + 1 + 1 := ⟨_, rfl⟩; obtain ⟨g2, h2⟩ : ∃ g, g = w2.heap.size := ⟨_, rfl⟩; rw [← h1, ← h2]; exact ⟨rfl, g1, g2, rfl, by rw [h1]; exact ⟨by first | (simp; done) | (simp; omega), by simp [go_sem], by simp [go_sem], by simp [go_sem]⟩, by rw [h2]; exact ⟨by first | (simp; done) | (simp; omega), by simp [go_sem], by simp [go_sem], by simp [go_sem]⟩, by subst h1; subst h2; repeat (first | exact Below.refl _ _ | refine Below.drew ?_ | refine bAlloc ?_ _)⟩)
          | (obtain ⟨g1, h1⟩ : ∃ g, g = w2.heap.size + 1 + 1 + 1 := ⟨_, rfl⟩; obtain ⟨g2, h2⟩ : ∃ g, g = w2.heap.size := ⟨_, rfl⟩; rw [← h1, ← h2]; exact ⟨rfl, g1, g2, rfl, by rw [h1]; exact ⟨by first | (simp; done) | (simp; omega), by simp [go_sem], by simp [go_sem], by simp [go_sem]⟩, by rw [h2]; exact ⟨by first | (simp; done) | (simp; omega), by simp [go_sem], by simp [go_sem], by simp [go_sem]⟩, by subst h1; subst h2; repeat (first | exact Below.refl _ _ | refine Below.drew ?_ | refine bAlloc ?_ _)⟩)
          | (obtain ⟨g1, h1⟩ : ∃ g, g = w2.heap.size + 1 := ⟨_, rfl⟩; obtain ⟨g2, h2⟩ : ∃ g, g = w2.heap.size := ⟨_, rfl⟩; rw [← h1, ← h2]; exact ⟨rfl, g1, g2, rfl, by rw [h1]; exact ⟨by first | (simp; done) | (simp; omega), by simp [go_sem], by simp [go_sem], by simp [go_sem]⟩, by rw [h2]; exact ⟨by first | (simp; done) | (simp; omega), by simp [go_sem], by simp [go_sem], by simp [go_sem]⟩, by subst h1; subst h2; repeat (first | exact Below.refl _ _ | refine Below.drew ?_ | refine bAlloc ?_ _)⟩)
      · rintro g g' w3 ⟨E1, E2, hb3⟩
        obtain ⟨ka, kb, ya, yb, sa, sb, sx⟩ := Kab.out
        have hc := fun x : Later w3 => E1.next x.ok
        have hd := fun x : Later w3 => E2.next x.ok
        have hc0 := fun x => (hc x).2.1
        have hc1 := fun x => (hc x).2.2.1
        have hc2 := fun x => (hc x).2.2.2
        have hd0 := fun x => (hd x).2.1
        have hd1 := fun x => (hd x).2.2.1
        have hd2 := fun x => (hd x).2.2.2
        have e1 : (c == c) = true := by simp
        have e2 : (y == y) = true := by simp
        have e3 : (sm == sm) = true := by simp
        have hh := law_happened
        clear hc hd HS Kab E1 E2 p0 p1 p2 q0 q1 q2
        go_wp2_with fail
        refine wp_region_below (by kernel_rfl) (by kernel_rfl) ?_
        repeat (first | go_big_quiet_skip | (go_big_quiet_want; go_big_quiet_op; go_big_quiet_on) | (go_big_quiet_want; go_big_quiet_op; apply Exists.intro; refine ⟨fun x => ?_, ?_⟩; (first | (go_at_call 17; exact calls_below x (ka _)) | (go_at_call 18; exact calls_below x (kb _)) | (go_at_call 19; exact calls_below x (ya _)) | (go_at_call 20; exact calls_below x (yb _)) | (go_at_call 21; with_reducible exact calls_below x (sx _)) | (go_at_call 21; with_reducible exact calls_below x (sa _)) | (go_at_call 22; exact calls_below x (sb _)) | (go_at_call 15; exact calls_below x (hh _))); go_big_quiet_on))
        refine wpQuiet_nil ?_
        intro _ hx
        obtain ⟨⟨w4, hb4⟩, rfl⟩ := hx
        go_wp2
        go_ret
        exact ⟨rfl, below_more (below_more hb2 hb3 (by have := hb2.size; omega)) hb4 (by have := hb2.size; omega)⟩
    · go_enter Try.func3, Try.ntmps3
      go_wp2_with fail
      have R1 : Row (((w.alloc (.cells #[.string t, .string d, .int .u64 (n : Nat)] 24)).alloc (.cells #[.string t', .string d', .int .u64 (n' : Nat)] 24))) (w.heap.size + 1) 24 [.string t', .string d', .int .u64 (n' : Nat)] := by
        have h := Row.new (w.alloc (.cells #[.string t, .string d, .int .u64 (n : Nat)] 24)) #[.string t', .string d', .int .u64 (n' : Nat)] 24
        have e : (w.alloc (.cells #[.string t, .string d, .int .u64 (n : Nat)] 24)).heap.size = w.heap.size + 1 := by simp
        rw [e] at h; exact h
      generalize (w.alloc (.cells #[.string t, .string d, .int .u64 (n : Nat)] 24)).alloc (.cells #[.string t', .string d', .int .u64 (n' : Nat)] 24) = w0 at hz R1 ⊢
      refine (ga _).mono ?_
      rintro e w1 ⟨rfl, hb1⟩
      have R11 := R1.next hb1
      have q0 := R11.cell 0 (by simp)
      have q1 := R11.cell 1 (by simp)
      have q2 := R11.cell 2 (by simp)
      simp only [List.getElem_cons_zero, List.getElem_cons_succ] at q0 q1 q2
      go_wp2_with fail
      refine (gb _).mono ?_
      rintro e w2 ⟨rfl, hb2⟩
      go_wp2_with fail
      refine (law_happened _).mono ?_
      rintro e w3 ⟨rfl, hb3⟩
      go_wp2
      go_ret
      exact ⟨rfl, below_chain hz (below_chain hb1 (below_chain hb2 hb3))⟩
  · go_enter Try.func3, Try.ntmps3
    go_wp2_with fail
    refine (ga _).mono ?_
    rintro e w1 ⟨rfl, hb1⟩
    go_wp2_with fail
    refine (law_happened _).mono ?_
    rintro e w2 ⟨rfl, hb2⟩
    go_wp2
    go_ret
    exact ⟨rfl, below_chain hz (below_chain hb1 hb2)⟩
end Go.Proofs.Ytiojapjidgjaoaa
