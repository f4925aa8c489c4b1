/-
  EVENTS: the program's Check and Same, the reference's.
-/
import Derived.Test.YtmplabhofhllmaaNums
import Derived.Test.YtmplabhofhllmaaRegion
import Derived.Test.YtmplabhofhllmaaEvLaw
import Derived.Test.YtmplabhofhllmaaFloat
import Derived.Deep.RegionHeld3
namespace Go.Proofs.Ytmplabhofhllmaa
open Go.RowKit
set_option linter.unusedVariables false

def evL (e : Ev) : List Value := [.string e.1, .string e.2.1, .float .f64 e.2.2]
def evC (e : Ev) : Array Value := #[.string e.1, .string e.2.1, .float .f64 e.2.2]
def rawC (e : Ev) : Array Value := #[.string e.1, .string e.2.1, .int .u64 (e.2.2 : Nat)]
theorem toList_nil {s : ByteArray} (h : s.size = 0) : s.toList = [] := by
  rw [toList_lb]; exact List.eq_nil_of_length_eq_zero (by rw [length_lb]; exact h)
theorem toList_ne {s : ByteArray} (h : s.size ≠ 0) : s.toList ≠ [] := by
  rw [toList_lb]; intro e; have := congrArg List.length e; rw [length_lb] at this; exact h this
theorem toList_inj {a b : ByteArray} : a.toList = b.toList ↔ a = b := by
  rw [toList_lb, toList_lb]
  constructor
  · intro h; rw [← bs_lb a, ← bs_lb b, h]
  · rintro rfl; rfl
theorem lit_below (w : World) (o : Obj) : Below w.heap.size w (w.alloc o) := (Below.refl _ _).alloc (Nat.le_refl _) o
theorem lit2_below' (w : World) (o o' : Obj) : Below w.heap.size w ((w.alloc o).alloc o') := below_chain (lit_below w o) (lit_below _ o')
theorem ret_bb {a b : Bool} (h : a = b) : Ending.returned (.bool a) = .returned (.bool b) := by rw [h]

set_option maxHeartbeats 400000 in
theorem events_Check (x : Ev) (w : World) (hx : okV x) :
    Calls Try.prog 38 #[.agg (evC x)] w fun e w' => e = .returned (.int .i64 (checkV x)) ∧ Below w.heap.size w w' := by
  obtain ⟨t, d, n⟩ := x
  obtain ⟨h1, h2, h3⟩ := hx
  simp only [maxLen] at h1 h2 h3
  unfold evC checkV
  dsimp only
  have hz := lit_below w (.cells #[.string t, .string d, .float .f64 n] 46)
  by_cases z : t.size = 0
  · have e1 : (t.toList == []) = true := by rw [toList_nil z]; rfl
    go_enter Try.func38, Try.ntmps38
    go_wp2
    go_ret
    exact ⟨ret_int (by rfl), hz⟩
  · have e1 : (t.toList == []) = false := by rw [beq_eq_false_iff_ne]; exact toList_ne z
    by_cases l1 : 16 < t.size
    · have l1' : (16 : Int) < t.size := by omega
      go_enter Try.func38, Try.ntmps38
      go_wp2
      go_ret
      exact ⟨ret_int (by rfl), hz⟩
    · have l1' : ¬ (16 : Int) < t.size := by omega
      by_cases l2 : 200 < d.size
      · have l2' : (200 : Int) < d.size := by omega
        go_enter Try.func38, Try.ntmps38
        go_wp2
        go_ret
        exact ⟨ret_int (by rfl), hz⟩
      · have l2' : ¬ (200 : Int) < d.size := by omega
        go_enter Try.func38, Try.ntmps38
        go_wp2
        go_ret
        exact ⟨ret_int (by rfl), hz⟩
set_option maxHeartbeats 400000 in
theorem ref_Check (x : Ev) (w : World) (hx : okV x) :
    Calls Try.prog 42 #[.agg (evC x)] w fun e w' => e = .returned (.int .i64 (checkV x)) ∧ Below w.heap.size w w' := by
  obtain ⟨t, d, n⟩ := x
  obtain ⟨h1, h2, h3⟩ := hx
  simp only [maxLen] at h1 h2 h3
  unfold evC checkV
  dsimp only
  have hz := lit_below w (.cells #[.string t, .string d, .float .f64 n] 46)
  by_cases z : t.size = 0
  · have e1 : (t.size : Int) = 0 := by omega
    go_enter Try.func42, Try.ntmps42
    go_wp2
    go_ret
    exact ⟨ret_int (by rfl), hz⟩
  · have e1 : ¬ (t.size : Int) = 0 := by omega
    have e2 : ((t.size : Int) == 0) = false := by rw [beq_eq_false_iff_ne]; exact e1
    by_cases l1 : 16 < t.size
    · have l1' : (16 : Int) < t.size := by omega
      go_enter Try.func42, Try.ntmps42
      go_wp2
      go_ret
      exact ⟨ret_int (by rfl), hz⟩
    · have l1' : ¬ (16 : Int) < t.size := by omega
      by_cases l2 : 200 < d.size
      · have l2' : (200 : Int) < d.size := by omega
        go_enter Try.func42, Try.ntmps42
        go_wp2
        go_ret
        exact ⟨ret_int (by rfl), hz⟩
      · have l2' : ¬ (200 : Int) < d.size := by omega
        go_enter Try.func42, Try.ntmps42
        go_wp2
        go_ret
        exact ⟨ret_int (by rfl), hz⟩

/-! weights -/
theorem weights_Same (a b : Nat) (w : World) (ha : a < 18446744073709551616) (hb : b < 18446744073709551616) :
    Calls Try.prog 47 #[.float .f64 a, .float .f64 b] w fun e w' => e = .returned (.bool (decide (a = b))) ∧ Below w.heap.size w w' := by
  by_cases h : a = b
  · subst h
    have hf := run_f64bits
    go_enter Try.func47, Try.ntmps47
    go_wp2
    go_ret
    exact ⟨ret_bb (by simp), Below.refl _ _⟩
  · have h' : ¬ (a : Int) = b := by omega
    have h2 : ((a : Int) == b) = false := by rw [beq_eq_false_iff_ne]; exact h'
    have hf := run_f64bits
    go_enter Try.func47, Try.ntmps47
    go_wp2
    go_ret
    exact ⟨ret_bb (by simp [h]), Below.refl _ _⟩
def keyW (a : Nat) : Nat := if 9223372036854775808 ≤ a then 18446744073709551615 - a else a + 9223372036854775808
theorem keyW_inj {a b : Nat} (ha : a < 18446744073709551616) (hb : b < 18446744073709551616) : keyW a = keyW b ↔ a = b := by
  unfold keyW; split <;> split <;> omega
theorem ref_Key (a : Nat) (w : World) (ha : a < 18446744073709551616) :
    Calls Try.prog 49 #[.float .f64 a] w fun e w' => e = .returned (.int .u64 (keyW a : Nat)) ∧ Below w.heap.size w w' := by
  unfold keyW
  by_cases h : 9223372036854775808 ≤ a
  · have h' : (9223372036854775808 : Int) ≤ a := by omega
    rw [if_pos h]
    have e1 : IntKind.u64.wrap (18446744073709551615 - (a : Int)) = ((18446744073709551615 - a : Nat) : Int) := by rw [IntKind.wrap_u64]; omega
    have hf := run_f64bits
    go_enter Try.func49, Try.ntmps49
    go_wp2
    go_ret
    exact ⟨ret_int (by omega), Below.refl _ _⟩
  · have h' : ¬ (9223372036854775808 : Int) ≤ a := by omega
    rw [if_neg h]
    have e1 : IntKind.u64.wrap ((a : Int) + 9223372036854775808) = ((a + 9223372036854775808 : Nat) : Int) := by rw [IntKind.wrap_u64]; omega
    have hf := run_f64bits
    go_enter Try.func49, Try.ntmps49
    go_wp2
    go_ret
    exact ⟨ret_int (by omega), Below.refl _ _⟩
theorem ref_SameW (a b : Nat) (w : World) (ha : a < 18446744073709551616) (hb : b < 18446744073709551616) :
    Calls Try.prog 46 #[.float .f64 a, .float .f64 b] w fun e w' => e = .returned (.bool (decide (a = b))) ∧ Below w.heap.size w w' := by
  have hk := keyW_inj ha hb
  have k1 := fun w => ref_Key a w ha
  have k2 := fun w => ref_Key b w hb
  generalize keyW a = x at hk k1
  generalize keyW b = y at hk k2
  have hd : decide (a = b) = decide (x = y) := by rw [decide_eq_decide]; exact hk.symm
  rw [hd]
  by_cases h : x = y
  · subst h
    go_enter Try.func46, Try.ntmps46
    go_wp2_with fail
    refine (k1 _).mono ?_
    rintro e w1 ⟨rfl, hb1⟩
    go_wp2_with fail
    refine (k2 _).mono ?_
    rintro e w2 ⟨rfl, hb2⟩
    go_wp2
    go_ret
    exact ⟨ret_bb (by simp), below_chain hb1 hb2⟩
  · have h' : ¬ (x : Int) = y := by omega
    have h2 : ((x : Int) == y) = false := by rw [beq_eq_false_iff_ne]; exact h'
    go_enter Try.func46, Try.ntmps46
    go_wp2_with fail
    refine (k1 _).mono ?_
    rintro e w1 ⟨rfl, hb1⟩
    go_wp2_with fail
    refine (k2 _).mono ?_
    rintro e w2 ⟨rfl, hb2⟩
    go_wp2
    go_ret
    exact ⟨ret_bb (by simp [h]), below_chain hb1 hb2⟩
end Go.Proofs.Ytmplabhofhllmaa
