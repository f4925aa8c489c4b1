/-
  sums.Open and the reference's, by their contracts.
-/
import Derived.Test.YtpoeginnoocenaaSums
import Derived.Test.YtpoeginnoocenaaRegion
namespace Go.Proofs.Ytpoeginnoocenaa
open Go.RowKit
set_option linter.unusedVariables false

theorem ret_sb {a a' : ByteArray} {o o' : Bool} (h1 : a = a') (h3 : o = o') : Ending.returned (.tuple #[.string a, .bool o]) = .returned (.tuple #[.string a', .bool o']) := by rw [h1, h3]

theorem openOk_walk (s : ByteArray) (h : ¬ s.size < 4) : openOk (lb s) = (lowL (sumL (lb (s.extract 0 (s.size - 4)))) == (s.extract (s.size - 4) s.size).toList) := by
  rw [bs_extract, lb_bs, bs_extract, toList_bs]
  unfold openOk
  rw [length_lb, decide_eq_true (by omega : 4 ≤ s.size), Bool.true_and, Nat.sub_zero, List.drop_zero]
  rw [List.take_of_length_le (l := (lb s).drop (s.size - 4)) (by simp)]
theorem openA_walk (s : ByteArray) (h : ¬ s.size < 4) (ho : openOk (lb s) = true) : s.extract 0 (s.size - 4) = bs (openA (lb s)) := by
  rw [bs_extract]
  unfold openA
  rw [ho, if_pos rfl, length_lb, Nat.sub_zero, List.drop_zero]

set_option maxHeartbeats 1000000 in
theorem sums_Open (s : ByteArray) (w : World) (hs : s.size ≤ 9223372036854775000) :
    Calls Try.prog 28 #[.string s] w fun e w' => e = .returned (.tuple #[.string (bs (openA (lb s))), .bool (openOk (lb s))]) ∧ Below w.heap.size w w' := by
  by_cases h4 : s.size < 4
  · have h4' : (s.size : Int) < 4 := by omega
    have ho : openOk (lb s) = false := by unfold openOk; rw [length_lb]; simp; omega
    unfold openA
    rw [ho]; clear ho
    go_enter Try.func28, Try.ntmps28
    go_wp2_with fail
    go_quiet (fail)
    go_wp2
    go_ret2
    exact ⟨rfl, below_drewN (Below.refl _ _) _⟩
  · have h4' : decide ((s.size : Int) < 4) = false := by simp; omega
    have h4n : (4 : Int) ≤ s.size := by omega
    go_enter Try.func28, Try.ntmps28
    go_wp2_with fail
    refine wp_region_below (by kernel_rfl) (by kernel_rfl) ?_
    repeat (first | go_big_quiet_skip | (go_big_quiet_want; go_big_quiet_op; go_big_quiet_on) | (go_big_quiet_want; go_big_quiet_op; apply Exists.intro; refine ⟨fun x => ?_, ?_⟩; (first | (go_at_call 45; exact calls_same x (sums_Sum _ _ (by rw [bs_extract]; simp [maxLen]; omega))) | (go_at_call 44; exact calls_below x (sums_low _ _ (sumL_lt _)))); go_big_quiet_on))
    refine wpQuiet_nil ?_
    intro _ hx
    obtain ⟨⟨w2, hb2⟩, rfl⟩ := hx
    have hk := openOk_walk s h4
    have Hk := Lib.hid hk
    clear hk
    go_wp2
    · have ht : (!lowL (sumL (lb (s.extract 0 (s.size - 4)))) == (s.extract (s.size - 4) s.size).toList) = true := by assumption
      have ho : openOk (lb s) = false := by rw [Hk.out]; simpa using ht
      go_ret2
      refine ⟨ret_sb ?_ ho.symm, hb2⟩
      unfold openA; rw [ho]; rfl
    · have ht : (!lowL (sumL (lb (s.extract 0 (s.size - 4)))) == (s.extract (s.size - 4) s.size).toList) = false := by assumption
      have ho : openOk (lb s) = true := by rw [Hk.out]; simpa using ht
      go_ret2
      exact ⟨ret_sb (openA_walk s h4 ho) ho.symm, hb2⟩

set_option maxHeartbeats 1000000 in
theorem ref_Open (s : ByteArray) (w : World) (hs : s.size ≤ 9223372036854775000) :
    Calls Try.prog 43 #[.string s] w fun e w' => e = .returned (.tuple #[.string (bs (openA (lb s))), .bool (openOk (lb s))]) ∧ Below w.heap.size w w' := by
  by_cases h4 : s.size < 4
  · have h4' : (s.size : Int) < 4 := by omega
    have ho : openOk (lb s) = false := by unfold openOk; rw [length_lb]; simp; omega
    unfold openA
    rw [ho]; clear ho
    go_enter Try.func43, Try.ntmps43
    go_wp2
    go_ret2
    exact ⟨rfl, Below.refl _ _⟩
  · have h4' : ¬ (s.size : Int) < 4 := by omega
    have hk : openOk (lb s) = (sealL (lb (s.extract 0 (s.size - 4))) == s.toList) := by
      rw [bs_extract, lb_bs, toList_lb, Nat.sub_zero, List.drop_zero]
      unfold openOk sealL
      rw [length_lb, decide_eq_true (by omega : 4 ≤ s.size), Bool.true_and, Bool.eq_iff_iff, beq_iff_eq, beq_iff_eq]
      conv => rhs; rhs; rw [← List.take_append_drop (s.size - 4) (lb s)]
      exact ⟨fun h => by rw [h], fun h => List.append_cancel_left h⟩
    have Hk := Lib.hid hk
    clear hk
    go_enter Try.func43, Try.ntmps43
    go_wp2_with fail
    refine (ref_Seal _ _ (by rw [bs_extract]; simp; omega)).mono ?_
    rintro e w1 ⟨rfl, hb1⟩
    go_wp2
    · have ht : (!sealL (lb (s.extract 0 (s.size - 4))) == s.toList) = true := by assumption
      have ho : openOk (lb s) = false := by rw [Hk.out]; simpa using ht
      go_ret2
      refine ⟨ret_sb ?_ ho.symm, hb1⟩
      unfold openA; rw [ho]; rfl
    · have ht : (!sealL (lb (s.extract 0 (s.size - 4))) == s.toList) = false := by assumption
      have ho : openOk (lb s) = true := by rw [Hk.out]; simpa using ht
      go_ret2
      exact ⟨ret_sb (openA_walk s h4 ho) ho.symm, hb1⟩
end Go.Proofs.Ytpoeginnoocenaa
