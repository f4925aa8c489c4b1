/-
  Rows.RecordsPutSaid: the record of any payload is the document's, or refused.
-/
import Derived.Test.YtjcdkekmploelaaStand
namespace Go.Proofs.Ytjcdkekmploelaa
open Go.RowKit
set_option linter.unusedVariables false

set_option maxHeartbeats 1000000 in
theorem RecordsPut_walk (s : ByteArray) (w : World) (hs : s.size ≤ maxLen) :
    Calls Try.prog 3 #[.string s] w fun e w' => e = .returned (.bool true) ∧ Below w.heap.size w w' := by
  unfold maxLen at hs
  by_cases h : s.size ≤ 3000
  · have h' : ¬ (3000 : Int) < s.size := by omega
    have hs' : s.size ≤ 9223372036854775000 := by omega
    go_enter Try.func3, Try.ntmps3
    go_wp2_with fail
    refine (records_Put _ _ hs').mono ?_
    rintro e w1 ⟨rfl, hb1⟩
    go_wp2_with fail
    refine (ref_recPut _ _ hs').mono ?_
    rintro e w2 ⟨rfl, hb2⟩
    generalize bs (putR (lb s)) = A
    generalize putE (lb s) = B
    go_wp2_with fail
    refine (law_recorded _).mono ?_
    rintro e w3 ⟨rfl, hb3⟩
    go_wp2
    go_ret
    refine ⟨rfl, ?_⟩
    repeat (first | assumption | exact Below.refl _ _ | (refine below_chain (by assumption) ?_))
  · have h' : (3000 : Int) < s.size := by omega
    go_enter Try.func3, Try.ntmps3
    go_wp2_with fail
    refine (law_recorded _).mono ?_
    rintro e w1 ⟨rfl, hb1⟩
    go_wp2
    go_ret
    exact ⟨rfl, hb1⟩
end Go.Proofs.Ytjcdkekmploelaa
