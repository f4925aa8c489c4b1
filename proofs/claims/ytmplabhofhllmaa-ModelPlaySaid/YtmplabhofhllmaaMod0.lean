/-
  MODEL: what is told of a batch, in plain words and in memory; names; model.told.
-/
import Derived.Test.YtmplabhofhllmaaBat
import Derived.Test.YtmplabhofhllmaaBatPut
import Derived.Test.YtmplabhofhllmaaBatRefPut
import Derived.Test.YtmplabhofhllmaaAppFull
import Derived.Test.YtmplabhofhllmaaAppAt
namespace Go.Proofs.Ytmplabhofhllmaa
open Go.RowKit
set_option linter.unusedVariables false

abbrev Tld := ByteArray × Int × Ev
def toldC (t : Tld) : List Value := [.string t.1, .int .i64 t.2.1, .string t.2.2.1, .string t.2.2.2.1, .float .f64 t.2.2.2.2]
def toldA (t : Tld) : Array Value := #[.string t.1, .int .i64 t.2.1, .string t.2.2.1, .string t.2.2.2.1, .float .f64 t.2.2.2.2]
theorem toldC_len (t : Tld) : (toldC t).length = 5 := rfl
def toldsC (l : List Tld) : List Value := l.flatMap toldC
theorem toldsC_append (a b : List Tld) : toldsC (a ++ b) = toldsC a ++ toldsC b := List.flatMap_append
theorem length_toldsC (l : List Tld) : (toldsC l).length = l.length * 5 := by
  unfold toldsC
  induction l with
  | nil => rfl
  | cons a l ih => rw [List.flatMap_cons, List.length_append, ih, toldC_len, List.length_cons]; omega
theorem toldsC_one (l : List Tld) : ∀ u ∈ toldsC l, u.oneCell' = true := by
  intro u hu
  obtain ⟨t, -, h⟩ := List.mem_flatMap.1 hu
  unfold toldC at h
  simp only [List.mem_cons, List.not_mem_nil, or_false] at h
  rcases h with rfl | rfl | rfl | rfl | rfl <;> rfl
def okT (t : Tld) : Prop := t.1.size ≤ maxLen ∧ (-9223372036854775808 ≤ t.2.1 ∧ t.2.1 ≤ 9223372036854775807) ∧ okV t.2.2
def toldFrom (s : ByteArray) : Int → List Ev → List Tld
  | _, [] => []
  | f, e :: l => (s, f, e) :: toldFrom s (f + 1) l
theorem toldFrom_snoc (s : ByteArray) (f : Int) (l : List Ev) (e : Ev) : toldFrom s f (l ++ [e]) = toldFrom s f l ++ [(s, f + l.length, e)] := by
  induction l generalizing f with
  | nil => simp [toldFrom]
  | cons a l ih =>
    rw [List.cons_append, toldFrom, ih, toldFrom, List.cons_append, List.length_cons, show f + 1 + (l.length : Int) = f + ((l.length + 1 : Nat) : Int) from by omega]
@[simp] theorem toldFrom_len (s : ByteArray) (f : Int) (l : List Ev) : (toldFrom s f l).length = l.length := by
  induction l generalizing f with
  | nil => rfl
  | cons a l ih => rw [toldFrom, List.length_cons, ih, List.length_cons]
theorem toldFrom_take (s : ByteArray) (f : Int) {l : List Ev} {k : Nat} {e : Ev} (h : l[k]? = some e) : toldFrom s f (l.take (k + 1)) = toldFrom s f (l.take k) ++ [(s, f + k, e)] := by
  rw [List.take_add_one, h]
  have hk : k < l.length := (List.getElem?_eq_some_iff.1 h).1
  show toldFrom s f (l.take k ++ [e]) = _
  rw [toldFrom_snoc, List.length_take, Nat.min_eq_left (by omega)]
def toldB (b : Bat) : List Tld := toldFrom b.1 b.2.1 b.2.2
@[simp] theorem toldB_len (b : Bat) : (toldB b).length = b.2.2.length := toldFrom_len _ _ _
theorem toldFrom_mem {s : ByteArray} {f : Int} {l : List Ev} {t : Tld} (h : t ∈ toldFrom s f l) : t.1 = s ∧ f ≤ t.2.1 ∧ t.2.1 < f + l.length ∧ t.2.2 ∈ l := by
  induction l generalizing f with
  | nil => cases h
  | cons a l ih =>
    rw [toldFrom, List.mem_cons] at h
    rcases h with rfl | h
    · exact ⟨rfl, Int.le_refl _, by simp only [List.length_cons]; omega, by simp⟩
    · obtain ⟨h1, h2, h3, h4⟩ := ih h
      exact ⟨h1, by omega, by rw [List.length_cons]; omega, List.mem_cons_of_mem _ h4⟩
/-- A batch that may be in a model. -/
def fineB (b : Bat) : Prop := okB b ∧ checkB b = 0
theorem fineB.range {b : Bat} (h : fineB b) : 0 < b.2.2.length ∧ b.2.2.length ≤ 8 ∧ 0 ≤ b.2.1 ∧ b.2.1 ≤ 1073741824 - (b.2.2.length : Int) := by
  have := checkB_parts h.2
  exact ⟨this.2.2.1, this.2.2.2.1, this.2.2.2.2.1, this.2.2.2.2.2.1⟩
theorem fineB.told {b : Bat} (h : fineB b) : ∀ t ∈ toldB b, okT t := by
  intro t ht
  obtain ⟨h1, h2, h3, h4⟩ := toldFrom_mem ht
  have hr := h.range
  exact ⟨by rw [h1]; exact h.1.1, by omega, h.1.2.2 _ h4⟩
/-- What is told, where it lies. -/
def Tolds (w : World) (v : Value) (l : List Tld) : Prop := Reads w v 5 l.length (toldsC l) ∧ ∀ t ∈ l, okT t
theorem Tolds.next {w w' : World} {v : Value} {l : List Tld} (h : Tolds w v l) (hb : Below w.heap.size w w') : Tolds w' v l := ⟨h.1.next hb, h.2⟩
theorem Tolds.later {w : World} {A : Option Addr} {n c : Nat} {l : List Tld} (h : Tolds w (.slice A n c) l) (h0 : 0 < l.length) : ∃ b off, A = some ⟨b, off, none⟩ ∧ b < w.heap.size ∧
    ∀ (i : Nat) (t : Tld), l[i]? = some t → ∀ w' : World, Below w.heap.size w w' → w'.cell? ⟨b, off + i * 5, none⟩ = some (.string t.1) ∧ w'.cell? ⟨b, off + i * 5 + 1, none⟩ = some (.int .i64 t.2.1) ∧ w'.cell? ⟨b, off + i * 5 + 2, none⟩ = some (.string t.2.2.1) ∧ w'.cell? ⟨b, off + i * 5 + 3, none⟩ = some (.string t.2.2.2.1) ∧ w'.cell? ⟨b, off + i * 5 + 4, none⟩ = some (.float .f64 t.2.2.2.2) := by
  obtain ⟨b, off, hA, hlt, hc⟩ := (Reads.each toldC_len h.1).2.2.2 h0
  refine ⟨b, off, hA, hlt, fun i e hi w' hb => ?_⟩
  have h := hc i e hi w' hb
  exact ⟨by simpa [toldC] using h 0 (by omega), by simpa [toldC, Nat.add_assoc] using h 1 (by omega), by simpa [toldC, Nat.add_assoc] using h 2 (by omega), by simpa [toldC, Nat.add_assoc] using h 3 (by omega), by simpa [toldC, Nat.add_assoc] using h 4 (by omega)⟩
theorem infoTold : (Try.prog.info? 48).map (fun i => (i.zero, i.size, i.bytes)) = some (some (.agg #[.string ⟨#[]⟩, .int .i64 0, .string ⟨#[]⟩, .string ⟨#[]⟩, .float .f64 0]), 5, 64) := by kernel_rfl
theorem infoBat : (Try.prog.info? 65).map (fun i => (i.zero, i.size, i.bytes)) = some (some (.agg #[.string ⟨#[]⟩, .int .i64 0, .slice none 0 0]), 3, 48) := by kernel_rfl
theorem infoEv : (Try.prog.info? 46).map (fun i => (i.zero, i.size, i.bytes)) = some (some (.agg #[.string ⟨#[]⟩, .string ⟨#[]⟩, .float .f64 0]), 3, 40) := by kernel_rfl
/-- One that is told, boxed into a slice of its own. -/
theorem told_lit (w : World) (t : Tld) : Reads (w.alloc (.cells (toldA t) 48)) (.slice (some ⟨w.heap.size, 0, none⟩) 1 1) 5 1 (toldsC [t]) := by
  have := Reads.of_row (size := 5) (n := 1) (cap := 1) (Row.new w (toldA t) 48) rfl (Nat.le_refl _) (by unfold maxLen; omega)
  simpa [toldA, toldsC, toldC] using this
theorem own_baseM {w : World} {base base' size n : Nat} {e : TypeId} {v : Value} {xs : List Value} (h : w.ownsRow base e size v n xs) (hb : base' ≤ base) : w.ownsRow base' e size v n xs := by
  refine ⟨h.1, ?_⟩
  rcases h.2 with hn | ⟨g, cap, cur, rfl, hbs, rest⟩
  · exact .inl hn
  · exact .inr ⟨g, cap, cur, rfl, Nat.le_trans hb hbs, rest⟩
def streamOk (s : ByteArray) : Bool := decide (0 < s.size) && decide (s.size ≤ 32)
set_option maxHeartbeats 1000000 in
theorem names_Stream (s : ByteArray) (w : World) (hs : s.size ≤ maxLen) :
    Calls Try.prog 28 #[.string s] w fun e w' => e = .returned (.bool (streamOk s)) ∧ w = w' := by
  unfold maxLen at hs
  by_cases z : s.size = 0
  · have e1 : (s.toList == []) = true := by rw [toList_nil z]; rfl
    have hr : streamOk s = false := by unfold streamOk; simp [z]
    rw [hr]
    clear hr
    go_enter Try.func28, Try.ntmps28
    go_wp2
    go_ret
    exact ⟨rfl, rfl⟩
  · have e1 : (s.toList == []) = false := by rw [beq_eq_false_iff_ne]; exact toList_ne z
    by_cases z2 : s.size ≤ 32
    · have i1 : (s.size : Int) ≤ 32 := by omega
      have hr : streamOk s = true := by unfold streamOk; simp; omega
      rw [hr]
      clear hr
      go_enter Try.func28, Try.ntmps28
      go_wp2
      go_ret
      exact ⟨rfl, rfl⟩
    · have i1 : ¬ (s.size : Int) ≤ 32 := by omega
      have hr : streamOk s = false := by unfold streamOk; simp; omega
      rw [hr]
      clear hr
      go_enter Try.func28, Try.ntmps28
      go_wp2
      go_ret
      exact ⟨rfl, rfl⟩
set_option maxHeartbeats 1000000 in
theorem ref_StreamN (s : ByteArray) (w : World) (hs : s.size ≤ maxLen) :
    Calls Try.prog 24 #[.string s] w fun e w' => e = .returned (.bool (streamOk s)) ∧ w = w' := by
  unfold maxLen at hs
  by_cases z : 1 ≤ s.size
  · have i0 : (1 : Int) ≤ s.size := by omega
    by_cases z2 : s.size ≤ 32
    · have i1 : (s.size : Int) ≤ 32 := by omega
      have hr : streamOk s = true := by unfold streamOk; simp; omega
      rw [hr]
      clear hr
      go_enter Try.func24, Try.ntmps24
      go_wp2
      go_ret
      exact ⟨rfl, rfl⟩
    · have i1 : ¬ (s.size : Int) ≤ 32 := by omega
      have hr : streamOk s = false := by unfold streamOk; simp; omega
      rw [hr]
      clear hr
      go_enter Try.func24, Try.ntmps24
      go_wp2
      go_ret
      exact ⟨rfl, rfl⟩
  · have i0 : ¬ (1 : Int) ≤ s.size := by omega
    have hr : streamOk s = false := by unfold streamOk; simp; omega
    rw [hr]
    clear hr
    go_enter Try.func24, Try.ntmps24
    go_wp2
    go_ret
    exact ⟨rfl, rfl⟩
set_option maxHeartbeats 2000000 in
theorem model_told (v : Value) (b : Bat) (w : World) (h : BatV w v b) (hb1 : b.2.2.length ≤ 1000) (hb2 : 0 ≤ b.2.1 ∧ b.2.1 ≤ 1073741824) :
    Calls Try.prog 30 #[v] w fun e w' => ∃ v', e = .returned v' ∧ w'.ownsRow w.heap.size 48 5 v' b.2.2.length (toldsC (toldB b)) ∧ Below w.heap.size w w' := by
  obtain ⟨s, f, l⟩ := b
  obtain ⟨A, c, rfl, hE, hs, -, -⟩ := h
  simp only [] at hE hs hb1 hb2 ⊢
  obtain ⟨-, hc1, hc2, -⟩ := Reads.each evL_len hE.1
  have hbox := box3 w (.string s) (.int .i64 f) (.slice A l.length c) 65
  have hz := lit_below w (.cells #[.string s, .int .i64 f, .slice A l.length c] 65)
  have hE1 := hE.next hz
  have hL := fun h0 => hE1.later h0
  have hB9 := hbox _ (Below.refl _ _)
  obtain ⟨d0, d1, d2⟩ := hB9
  obtain ⟨i0, hi0, hz0, hz1, hz2⟩ := info_parts infoTold
  unfold toldB
  dsimp only
  have HL := Lib.hid hL
  have HB := Lib.hid hbox
  have HZ := Lib.hid hz
  have HC2 := Lib.hid hc2
  clear hL hE hE1 hbox hc2
  go_enter Try.func30, Try.ntmps30
  go_wp2_with fail
  obtain ⟨W, hW⟩ : ∃ W, W = (w.alloc (Obj.cells #[Value.string s, Value.int IntKind.i64 f, Value.slice A l.length c] 65)) := ⟨_, rfl⟩
  rw [← hW] at HL HB HZ ⊢
  clear d0 d1 d2 hz hW
  obtain ⟨n, hn⟩ : ∃ n, n = l.length := ⟨_, rfl⟩
  rw [← hn] at hb1 hc1 HL ⊢
  have HN := Lib.hid hn
  clear hn
  go_loopw [3, 9] (fun o i wr => ∃ k : Nat, k ≤ n ∧ i = .int .i64 (k : Int) ∧ wr.ownsRow W.heap.size 48 5 o k (toldsC (toldFrom s f (l.take k))) ∧ Below W.heap.size W wr) (fun _ i _ => n - (intOf i).toNat)
  case atStart => exact ⟨0, by omega, rfl, World.ownsRow_nil _ _ _ _, Below.refl _ _⟩
  case round =>
    obtain ⟨k, hk, rfl, hown, hbr⟩ := hrel
    by_cases hlt : k < n
    · obtain ⟨e, he⟩ : ∃ e, l[k]? = some e := ⟨_, List.getElem?_eq_getElem (by have := HN.out; omega)⟩
      have hst := toldFrom_take s f he
      obtain ⟨b, off, rfl, hlt0, hcell⟩ := HL.out (by omega)
      obtain ⟨c0, c1, c2⟩ := hcell k e he wr hbr
      obtain ⟨x1, x2, x3⟩ := e
      simp only [] at c0 c1 c2
      have i1 : (k : Int) < n := by omega
      have hzA : Below wr.heap.size wr (wr.alloc (.cells #[.string x1, .string x2, .float .f64 x3] 46)) := lit_below wr _
      have hzT : Below wr.heap.size wr ((wr.alloc (.cells #[.string x1, .string x2, .float .f64 x3] 46)).alloc (.cells (toldA (s, f + k, x1, x2, x3)) 48)) := lit2_below' wr _ _
      obtain ⟨d0, d1, d2⟩ := HB.out _ (below_chain hbr hzA)
      have hrd := told_lit (wr.alloc (.cells #[.string x1, .string x2, .float .f64 x3] 46)) (s, f + k, x1, x2, x3)
      rw [show (wr.alloc (.cells #[.string x1, .string x2, .float .f64 x3] 46)).heap.size = wr.heap.size + 1 from Array.size_push _] at hrd
      have hsm : IntKind.i64.wrap (f + (k : Int)) = f + k := by rw [IntKind.wrap_i64]; omega
      have hsm2 : wrap64 (f + (k : Int)) = f + k := by unfold wrap64; omega
      have hown2 := own_next hown hzT
      have Hst := Lib.hid hst
      have Hown := Lib.hid hown2
      have Hown0 := Lib.hid hown
      have Hrd := Lib.hid hrd
      have HzT := Lib.hid hzT
      clear he hcell hst hown hown2 hzA hrd hzT
      go_wp2_with (first
        | (at_builtin; refine wpList_append_reads _ rfl _ _ 28 rfl W.heap.size 48 i0 _ 5 64 Try.underlying28 hi0 hz0 hz1 hz2 rfl (by decide) _ k _ rfl Hown.out _ 1 (toldsC [(s, f + k, x1, x2, x3)]) rfl Hrd.out (toldsC_one _) (by unfold maxLen; omega) (by omega) (below_chain hbr HzT.out).size ?_; intro v3 w3 hown3 hg3))
      have hb3 := (below_chain hbr HzT.out).grown hg3 (below_chain hbr HzT.out).size (own_block_ge Hown0.out)
      go_wp2
      go_roundw
      case rel =>
        refine ⟨k + 1, by omega, by go_num, ?_, hb3⟩
        rw [Hst.out, toldsC_append]
        exact hown3
      case measure => simp [intOf]; omega
    · obtain rfl : k = n := by omega
      rw [List.take_of_length_le (by rw [← HN.out]; exact Nat.le_refl _)] at hown
      have Hown := Lib.hid hown
      clear hown
      go_wp2
      go_ret
      have h9 := own_baseM Hown.out HZ.out.size
      rw [show k = l.length from HN.out] at h9
      exact ⟨_, rfl, h9, below_chain HZ.out hbr⟩
end Go.Proofs.Ytmplabhofhllmaa
