/-
  Rows.NumsTellSaid: what nums.Put and nums.Get tell is what the reference tells, for every number, size and text.
-/
import Derived.Test.YtigjjggkcagkmaaNumsPut
namespace Go.Proofs.Ytigjjggkcagkmaa
open Go.RowKit
set_option linter.unusedVariables false

set_option maxHeartbeats 1000000 in
theorem NumsTell_walk (n size : Int) (s : ByteArray) (w : World) (hn : 0 ≤ n ∧ n ≤ 18446744073709551615) (hz : -9223372036854775808 ≤ size ∧ size ≤ 9223372036854775807) (hs : s.size ≤ maxLen) :
    Calls Try.prog 3 #[.int .u64 n, .int .i64 size, .string s] w fun e w' => e = .returned (.bool true) ∧ Below w.heap.size w w' := by
  have hn0 : 0 ≤ n := hn.1
  have hn1 : n < 18446744073709551616 := by omega
  clear hn
  by_cases h : s.size ≤ 1000
  · have h' : ¬ (1000 : Int) < s.size := by omega
    go_enter Try.func3, Try.ntmps3
    go_wp2_with fail
    go_loopw [7] (fun i wr => ∃ k : Int, -1 ≤ k ∧ k ≤ 10 ∧ i = .int .i64 k ∧ Below w.heap.size w wr) (fun i _ => (10 - intOf i).toNat)
    case atStart => exact ⟨-1, by omega, by omega, rfl, Below.refl _ _⟩
    case round =>
      obtain ⟨k, hk0, hk1, rfl, hbr⟩ := hrel
      by_cases hlt : k < 10
      · go_wp2_with fail
        refine (nums_Put _ _ _ hn0 hn1).mono ?_
        rintro e w1 ⟨rfl, hb1⟩
        go_wp2_with fail
        refine (ref_Put _ _ _ hn0 hn1).mono ?_
        rintro e w2 ⟨rfl, hb2⟩
        go_wp2
        go_roundw
        case rel => exact ⟨k + 1, by omega, by omega, by go_num, below_more (below_more hbr hb1 (Nat.le_refl _)) hb2 (Nat.le_refl _)⟩
        case measure => simp [intOf]; omega
      · go_wp2_with fail
        refine (nums_Put _ _ _ hn0 hn1).mono ?_
        rintro e w1 ⟨rfl, hb1⟩
        go_wp2_with fail
        refine (ref_Put _ _ _ hn0 hn1).mono ?_
        rintro e w2 ⟨rfl, hb2⟩
        go_wp2_with fail
        refine (nums_Get _ _ hs).mono ?_
        rintro e w3 ⟨rfl, rfl⟩
        go_wp2_with fail
        refine (ref_Get _ _ hs).mono ?_
        rintro e w4 ⟨rfl, rfl⟩
        go_wp2_with fail
        refine (law_put _).mono ?_
        rintro e w5 ⟨rfl, hb5⟩
        go_wp2
        go_ret
        exact ⟨rfl, below_more (below_more (below_more hbr hb1 (Nat.le_refl _)) hb2 (Nat.le_refl _)) hb5 (Nat.le_refl _)⟩
  · have h' : (1000 : Int) < s.size := by omega
    go_enter Try.func3, Try.ntmps3
    go_wp2_with fail
    refine (law_put _).mono ?_
    rintro e w1 ⟨rfl, hb1⟩
    go_wp2
    go_ret
    exact ⟨rfl, hb1⟩
end Go.Proofs.Ytigjjggkcagkmaa
