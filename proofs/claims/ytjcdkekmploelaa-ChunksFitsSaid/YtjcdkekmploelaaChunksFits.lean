/-
  Rows.ChunksFitsSaid.
-/
import Derived.Test.YtjcdkekmploelaaChunked
namespace Go.Proofs.Ytjcdkekmploelaa
open Go.RowKit
set_option linter.unusedVariables false

set_option maxHeartbeats 1000000 in
theorem ChunksFits_walk (n : Int) (s : ByteArray) (w : World) (hn : -9223372036854775808 ≤ n ∧ n ≤ 9223372036854775807) (hs : s.size ≤ maxLen) :
    Calls Try.prog 12 #[.int .i64 n, .string s] w fun e w' => e = .returned (.bool true) ∧ Below w.heap.size w w' := by
  by_cases h : s.size ≤ 3000
  · have h' : ¬ (3000 : Int) < s.size := by omega
    have hm : -9223372036854775808 ≤ Int.tmod n 5000 ∧ Int.tmod n 5000 ≤ 9223372036854775807 := by
      have h1 := Int.tmod_lt_of_pos n (show (0 : Int) < 5000 by decide)
      have h2 := Int.lt_tmod_of_pos n (show (0 : Int) < 5000 by decide)
      omega
    go_enter Try.func12, Try.ntmps12
    go_wp2_with fail
    refine (chunks_Fits _ _ _ hn hs).mono ?_
    rintro e w' ⟨rfl, rfl⟩
    go_wp2_with fail
    refine (ref_Fits _ _ _ hn hs).mono ?_
    rintro e w' ⟨rfl, rfl⟩
    go_wp2_with fail
    refine (chunks_Fits _ _ _ hm hs).mono ?_
    rintro e w' ⟨rfl, rfl⟩
    go_wp2_with fail
    refine (ref_Fits _ _ _ hm hs).mono ?_
    rintro e w' ⟨rfl, rfl⟩
    go_wp2_with fail
    refine (law_chunked _).mono ?_
    rintro e w1 ⟨rfl, hb1⟩
    go_wp2
    go_ret
    exact ⟨rfl, hb1⟩
  · have h' : (3000 : Int) < s.size := by unfold maxLen at hs; omega
    go_enter Try.func12, Try.ntmps12
    go_wp2_with fail
    refine (law_chunked _).mono ?_
    rintro e w1 ⟨rfl, hb1⟩
    go_wp2
    go_ret
    exact ⟨rfl, hb1⟩
end Go.Proofs.Ytjcdkekmploelaa
