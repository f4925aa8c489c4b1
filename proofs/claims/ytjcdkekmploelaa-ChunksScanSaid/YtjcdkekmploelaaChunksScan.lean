/-
  Rows.ChunksScanSaid.
-/
import Derived.Test.YtjcdkekmploelaaChunked
namespace Go.Proofs.Ytjcdkekmploelaa
open Go.RowKit
set_option linter.unusedVariables false

set_option maxHeartbeats 1000000 in
theorem ChunksScan_walk (s : ByteArray) (n : Int) (w : World) (hs : s.size ≤ maxLen) (hn : -9223372036854775808 ≤ n ∧ n ≤ 9223372036854775807) :
    Calls Try.prog 10 #[.string s, .int .i64 n] w fun e w' => e = .returned (.bool true) ∧ Below w.heap.size w w' := by
  unfold maxLen at hs
  by_cases h : s.size ≤ 5000
  · have h' : ¬ (5000 : Int) < s.size := by omega
    have hs' : s.size ≤ 1000000000000 := by omega
    go_enter Try.func10, Try.ntmps10
    go_wp2_with fail
    refine (chunks_Scan _ _ _ hs' hn).mono ?_
    rintro e w1 ⟨v1, rfl, hr1, hb1⟩
    go_wp2_with fail
    refine (ref_Scan _ _ _ hs' hn).mono ?_
    rintro e w2 ⟨v2, rfl, hr2, hb2⟩
    generalize cAt (lb s) n = L at hr1 hr2
    generalize cEnd (lb s) n = E
    generalize cOk (lb s) n = O
    go_wp2_with fail
    refine (ex_Ints _ _ _ _ true _ (ints_nats _ (hr1.next hb2)) (ints_nats _ hr2) (by simp)).mono ?_
    rintro e w3 ⟨rfl, hb3⟩
    go_wp2_with fail
    refine (chunks_Head _ _ hn).mono ?_
    rintro e w4 ⟨rfl, hb4⟩
    go_wp2_with fail
    refine (ref_Head _ _ hn).mono ?_
    rintro e w5 ⟨rfl, hb5⟩
    generalize bs (headL n) = H
    go_wp2_with fail
    refine (law_chunked _).mono ?_
    rintro e w6 ⟨rfl, hb6⟩
    go_wp2
    go_ret
    refine ⟨rfl, ?_⟩
    repeat (first | assumption | exact Below.refl _ _ | (refine below_chain (by assumption) ?_))
  · have h' : (5000 : Int) < s.size := by omega
    go_enter Try.func10, Try.ntmps10
    go_wp2_with fail
    refine (law_chunked _).mono ?_
    rintro e w1 ⟨rfl, hb1⟩
    go_wp2
    go_ret
    exact ⟨rfl, hb1⟩
end Go.Proofs.Ytjcdkekmploelaa
