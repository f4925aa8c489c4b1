/-
  Rows.SumsSealSaid: what is sealed and opened is what the reference seals and opens.
-/
import Derived.Test.YtigjjggkcagkmaaSumsLaw
namespace Go.Proofs.Ytigjjggkcagkmaa
open Go.RowKit
set_option linter.unusedVariables false

set_option maxHeartbeats 1000000 in
theorem SumsSeal_walk (s : ByteArray) (w : World) (hs : s.size ≤ maxLen) :
    Calls Try.prog 10 #[.string s] w fun e w' => e = .returned (.bool true) ∧ Below w.heap.size w w' := by
  by_cases h : s.size ≤ 20000
  · have h' : ¬ (20000 : Int) < s.size := by omega
    go_enter Try.func10, Try.ntmps10
    go_wp2_with fail
    refine (ref_Seal _ _ (by omega)).mono ?_
    rintro e w1 ⟨rfl, hb1⟩
    go_wp2_with fail
    refine (sums_Open _ _ (by omega)).mono ?_
    rintro e w2 ⟨rfl, hb2⟩
    go_wp2_with fail
    refine (ref_Open _ _ (by omega)).mono ?_
    rintro e w3 ⟨rfl, hb3⟩
    go_wp2_with fail
    refine (sums_Open _ _ (by rw [size_bs, sealL_length, length_lb]; omega)).mono ?_
    rintro e w4 ⟨rfl, hb4⟩
    rw [lb_bs, openA_seal, openOk_seal, bs_lb]
    go_wp2_with fail
    refine (sums_Seal _ _ (by omega)).mono ?_
    rintro e w5 ⟨rfl, hb5⟩
    go_wp2_with fail
    refine (law_summed _).mono ?_
    rintro e w6 ⟨rfl, hb6⟩
    go_wp2
    go_ret
    refine ⟨rfl, ?_⟩
    repeat (first | assumption | (refine below_chain (by assumption) ?_))
  · have h' : (20000 : Int) < s.size := by omega
    go_enter Try.func10, Try.ntmps10
    go_wp2_with fail
    refine (law_summed _).mono ?_
    rintro e w1 ⟨rfl, hb1⟩
    go_wp2
    go_ret
    exact ⟨rfl, hb1⟩
end Go.Proofs.Ytigjjggkcagkmaa
