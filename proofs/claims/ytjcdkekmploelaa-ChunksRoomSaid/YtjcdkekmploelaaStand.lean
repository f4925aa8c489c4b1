/-
  annalistlaw08.stand, Row; the laws RecordsPut, RecordsGet.
-/
import Derived.Test.YtjcdkekmploelaaRecorded
namespace Go.Proofs.Ytjcdkekmploelaa
open Go.RowKit
set_option linter.unusedVariables false

set_option maxHeartbeats 1000000 in
theorem law_stand (s : ByteArray) (a : Int) (w : World) (hs : s.size ≤ 1000000000000) (ha : -9223372036854775808 ≤ a ∧ a ≤ 9223372036854775807) :
    Calls Try.prog 19 #[.string s, .int .i64 a] w fun e w' => e = .returned (.bool true) ∧ Below w.heap.size w w' := by
  have hs' : s.size ≤ 9223372036854775000 := by omega
  go_enter Try.func19, Try.ntmps19
  go_wp2_with fail
  refine (records_Get _ _ _ hs' ha).mono ?_
  rintro e w1 ⟨rfl, hb1⟩
  go_wp2_with fail
  refine (ref_recGet _ _ _ hs' ha).mono ?_
  rintro e w2 ⟨rfl, hb2⟩
  go_wp2_with fail
  refine (records_Back _ _ _ hs' ha).mono ?_
  rintro e w3 ⟨rfl, hb3⟩
  go_wp2_with fail
  refine (ref_recBack _ _ _ hs' ha).mono ?_
  rintro e w4 ⟨rfl, hb4⟩
  go_wp2_with fail
  refine (records_Whole _ _ _ hs ha).mono ?_
  rintro e w5 ⟨v5, rfl, hr5, hb5⟩
  go_wp2_with fail
  refine (ref_Whole _ _ _ hs ha).mono ?_
  rintro e w6 ⟨v6, rfl, hr6, hb6⟩
  generalize bs (gA (lb s) a) = G1
  generalize gN (lb s) a = G2
  generalize gOk (lb s) a = G3
  generalize bs (bA (lb s) a) = G4
  generalize bP (lb s) a = G5
  generalize bOk (lb s) a = G6
  generalize wEnd (lb s) a = G7
  generalize wAt (lb s) a = G8 at hr5 hr6
  go_wp2_with fail
  refine (ex_Ints _ _ (G8.map (fun n : Nat => (n : Int))) (G8.map (fun n : Nat => (n : Int))) true _ (by simpa [natsC] using hr5.next hb6) (by simpa [natsC] using hr6) (by simp)).mono ?_
  rintro e w7 ⟨rfl, hb7⟩
  go_wp2
  go_ret
  refine ⟨rfl, ?_⟩
  repeat (first | assumption | exact Below.refl _ _ | (refine below_chain (by assumption) ?_))
end Go.Proofs.Ytjcdkekmploelaa
