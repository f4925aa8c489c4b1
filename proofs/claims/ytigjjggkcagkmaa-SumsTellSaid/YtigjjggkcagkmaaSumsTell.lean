/-
  Rows.SumsTellSaid: sums.Sum and sums.More tell what the reference tells.
-/
import Derived.Test.YtigjjggkcagkmaaSumsLaw
namespace Go.Proofs.Ytigjjggkcagkmaa
open Go.RowKit
set_option linter.unusedVariables false

set_option maxHeartbeats 1000000 in
theorem SumsTell_walk (s : ByteArray) (n : Int) (w : World) (hs : s.size ≤ maxLen) (hn : 0 ≤ n ∧ n ≤ 4294967295) :
    Calls Try.prog 9 #[.string s, .int .u32 n] w fun e w' => e = .returned (.bool true) ∧ Below w.heap.size w w' := by
  obtain ⟨m, rfl⟩ := Int.eq_ofNat_of_zero_le hn.1
  have hm : m < 4294967296 := by omega
  clear hn
  by_cases h : s.size ≤ 20000
  · have h' : ¬ (20000 : Int) < s.size := by omega
    go_enter Try.func9, Try.ntmps9
    go_wp2_with fail
    refine (sums_Sum _ _ hs).mono ?_
    rintro e w1 ⟨rfl, rfl⟩
    go_wp2_with fail
    refine (ref_Sum _ _ hs).mono ?_
    rintro e w1 ⟨rfl, rfl⟩
    go_wp2_with fail
    refine (sums_More _ _ _ hs hm).mono ?_
    rintro e w1 ⟨rfl, rfl⟩
    go_wp2_with fail
    refine (ref_More _ _ _ hs hm).mono ?_
    rintro e w1 ⟨rfl, rfl⟩
    go_wp2_with fail
    refine (law_summed _).mono ?_
    rintro e w1 ⟨rfl, hb1⟩
    go_wp2
    go_ret
    exact ⟨rfl, hb1⟩
  · have h' : (20000 : Int) < s.size := by omega
    go_enter Try.func9, Try.ntmps9
    go_wp2_with fail
    refine (law_summed _).mono ?_
    rintro e w1 ⟨rfl, hb1⟩
    go_wp2
    go_ret
    exact ⟨rfl, hb1⟩
end Go.Proofs.Ytigjjggkcagkmaa
