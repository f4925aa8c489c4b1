/-
  Chunks: heads, and what stands in a chunk; the program's and the reference's Head, Scan, Fits by their contracts.
-/
import Derived.Test.YtjcdkekmploelaaStand
import Derived.Test.YtjcdkekmploelaaRecRow
namespace Go.Proofs.Ytjcdkekmploelaa
open Go.RowKit
set_option linter.unusedVariables false

def headL (n : Int) : List UInt8 := if n < 0 ∨ 199 < n then [] else sealL ([99, 104, 110, 107] ++ be 4 n.toNat)
theorem headL_no {n : Int} (h : n < 0 ∨ 199 < n) : headL n = [] := if_pos h
theorem headL_yes {n : Nat} (h : n ≤ 199) : headL (n : Int) = sealL ([99, 104, 110, 107] ++ be 4 n) := by unfold headL; rw [if_neg (by omega)]; rfl
theorem headL_length {n : Nat} (h : n ≤ 199) : (headL (n : Int)).length = 12 := by rw [headL_yes h, sealL_length]; simp
/-- b stands ahead of a. -/
def pre (a b : List UInt8) : Bool := decide (b.length ≤ a.length) && (a.take b.length == b)
def cFull (l : List UInt8) (n : Int) : Bool := (headL n != []) && pre l (headL n)
def cOk (l : List UInt8) (n : Int) : Bool := (headL n != []) && (pre l (headL n) || pre (headL n) l)
def cAt (l : List UInt8) (n : Int) : List Nat := if cFull l n then wAt l 12 else []
def cEnd (l : List UInt8) (n : Int) : Nat := if cFull l n then wEnd l 12 else 0

theorem ret_vib {v v' : Value} {i i' : Int} {o o' : Bool} (h1 : v = v') (h2 : i = i') (h3 : o = o') : Ending.returned (.tuple #[v, .int .i64 i, .bool o]) = .returned (.tuple #[v', .int .i64 i', .bool o']) := by rw [h1, h2, h3]

theorem chunks_Head (n : Int) (w : World) (hn : -9223372036854775808 ≤ n ∧ n ≤ 9223372036854775807) :
    Calls Try.prog 28 #[.int .i64 n] w fun e w' => e = .returned (.string (bs (headL n))) ∧ Below w.heap.size w w' := by
  obtain ⟨h1, h2⟩ := hn
  by_cases h : n < 0 ∨ 199 < n
  · rw [headL_no h]
    rcases (show n < 0 ∨ (¬ n < 0 ∧ (200 : Int) ≤ n) from by omega) with h | ⟨h, h'⟩
    all_goals
      go_enter Try.func28, Try.ntmps28
      go_wp2
      go_ret
      exact ⟨rfl, Below.refl _ _⟩
  · obtain ⟨k, rfl⟩ := Int.eq_ofNat_of_zero_le (a := n) (by omega)
    have hk : decide ((200 : Int) ≤ k) = false := by rw [decide_eq_false_iff_not]; omega
    have hk0 : decide ((k : Int) < 0) = false := by rw [decide_eq_false_iff_not]; omega
    rw [headL_yes (by omega)]
    have hk2 : (k : Int) ≤ 9223372036854775807 := by omega
    clear h h1 h2
    go_enter Try.func28, Try.ntmps28
    go_wp2_with fail
    refine (nums_Put _ _ _ (by omega) (by omega)).mono ?_
    rintro e w1 ⟨rfl, hb1⟩
    have ep : putL ((k : Nat) : Int).toNat 4 = be 4 k := putL_four _
    rw [ep]; clear ep
    obtain ⟨X, hX⟩ : ∃ X, X = bs (be 4 k) := ⟨_, rfl⟩
    have hXs : X.size = 4 := by rw [hX, size_bs]; simp
    rw [← hX]
    have HX := Lib.hid hX
    clear hX
    go_wp2_with fail
    refine (sums_Seal _ _ (by rw [ByteArray.size_append, hXs]; decide)).mono ?_
    rintro e w2 ⟨rfl, hb2⟩
    obtain ⟨Y, hY⟩ : ∃ Y, Y = bs (sealL (lb (⟨#[99, 104, 110, 107]⟩ ++ X))) := ⟨_, rfl⟩
    rw [← hY]
    have HY := Lib.hid hY
    clear hY
    go_wp2
    go_ret
    refine ⟨ret_str ?_, ?_⟩
    · rw [HY.out, HX.out]; rfl
    repeat (first | assumption | exact Below.refl _ _ | (refine below_chain (by assumption) ?_))
theorem ref_Head (n : Int) (w : World) (hn : -9223372036854775808 ≤ n ∧ n ≤ 9223372036854775807) :
    Calls Try.prog 29 #[.int .i64 n] w fun e w' => e = .returned (.string (bs (headL n))) ∧ Below w.heap.size w w' := by
  obtain ⟨h1, h2⟩ := hn
  by_cases h : n < 0 ∨ 199 < n
  · rw [headL_no h]
    rcases (show n < 0 ∨ (¬ n < 0 ∧ (199 : Int) < n) from by omega) with h | ⟨h, h'⟩
    all_goals
      go_enter Try.func29, Try.ntmps29
      go_wp2
      go_ret
      exact ⟨rfl, Below.refl _ _⟩
  · obtain ⟨k, rfl⟩ := Int.eq_ofNat_of_zero_le (a := n) (by omega)
    have hk : decide ((199 : Int) < k) = false := by rw [decide_eq_false_iff_not]; omega
    have hk0 : decide ((k : Int) < 0) = false := by rw [decide_eq_false_iff_not]; omega
    rw [headL_yes (by omega)]
    have hk2 : (k : Int) ≤ 9223372036854775807 := by omega
    clear h h1 h2
    go_enter Try.func29, Try.ntmps29
    go_wp2_with fail
    refine (ref_Put _ _ _ (by omega) (by omega)).mono ?_
    rintro e w1 ⟨rfl, hb1⟩
    have ep : putL ((k : Nat) : Int).toNat 4 = be 4 k := putL_four _
    rw [ep]; clear ep
    obtain ⟨X, hX⟩ : ∃ X, X = bs (be 4 k) := ⟨_, rfl⟩
    have hXs : X.size = 4 := by rw [hX, size_bs]; simp
    rw [← hX]
    have HX := Lib.hid hX
    clear hX
    go_wp2_with fail
    refine (ref_Seal _ _ (by rw [ByteArray.size_append, hXs]; decide)).mono ?_
    rintro e w2 ⟨rfl, hb2⟩
    obtain ⟨Y, hY⟩ : ∃ Y, Y = bs (sealL (lb (⟨#[99, 104, 110, 107]⟩ ++ X))) := ⟨_, rfl⟩
    rw [← hY]
    have HY := Lib.hid hY
    clear hY
    go_wp2
    go_ret
    refine ⟨ret_str ?_, ?_⟩
    · rw [HY.out, HX.out]; rfl
    repeat (first | assumption | exact Below.refl _ _ | (refine below_chain (by assumption) ?_))
theorem hasPrefix_lite (a b : ByteArray) (w : World) (ha : a.size ≤ maxLen) (hb : b.size ≤ maxLen) :
    Calls Try.prog 50 #[.string a, .string b] w fun e w' => e = .returned (.bool (pre (lb a) (lb b))) ∧ w = w' := by
  unfold maxLen at ha hb
  by_cases h : b.size ≤ a.size
  · have h' : (b.size : Int) ≤ a.size := by omega
    have e : ((a.extract 0 b.size).toList == b.toList) = pre (lb a) (lb b) := by
      unfold pre
      rw [length_lb, length_lb, decide_eq_true h, Bool.true_and, bs_extract, toList_bs, List.drop_zero, Nat.sub_zero, toList_lb]
    have E := Lib.hid e
    clear e
    go_enter Try.func50, Try.ntmps50
    go_wp2
    go_ret
    exact ⟨ret_bool E.out, rfl⟩
  · have h' : ¬ (b.size : Int) ≤ a.size := by omega
    have e : false = pre (lb a) (lb b) := by unfold pre; rw [length_lb, length_lb, decide_eq_false h]; rfl
    have E := Lib.hid e
    clear e
    go_enter Try.func50, Try.ntmps50
    go_wp2
    go_ret
    exact ⟨ret_bool E.out, rfl⟩
theorem hasPrefix (a b : ByteArray) (w : World) (ha : a.size ≤ maxLen) (hb : b.size ≤ maxLen) :
    Calls Try.prog 43 #[.string a, .string b] w fun e w' => e = .returned (.bool (pre (lb a) (lb b))) ∧ w = w' := by
  go_enter Try.func43, Try.ntmps43
  go_wp2_with fail
  refine (hasPrefix_lite _ _ _ ha hb).mono ?_
  rintro e w' ⟨rfl, rfl⟩
  go_wp2
  go_ret
  exact ⟨rfl, rfl⟩
end Go.Proofs.Ytjcdkekmploelaa
