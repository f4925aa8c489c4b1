/-
  Rows.PagesPutSaid: the file of any bytes is the document's, or refused.
-/
import Derived.Test.YtpoeginnoocenaaPage7
namespace Go.Proofs.Ytpoeginnoocenaa
open Go.RowKit
set_option linter.unusedVariables false

set_option maxRecDepth 100000 in
set_option maxHeartbeats 4000000 in
theorem PagesPut_walk (s : ByteArray) (p : Int) (w : World) (hs : s.size ≤ maxLen) (hp : -9223372036854775808 ≤ p ∧ p ≤ 9223372036854775807) :
    Calls Try.prog 8 #[.string s, .int .i64 p] w fun e w' => e = .returned (.bool true) ∧ Below w.heap.size w w' := by
  by_cases hz : 1000 < s.size
  · have i1 : (1000 : Int) < s.size := by omega
    clear hp
    go_enter Try.func8, Try.ntmps8
    go_wp2_with fail
    refine (law_paged _).mono ?_
    rintro e w1 ⟨rfl, h1⟩
    go_wp2
    go_ret
    exact ⟨rfl, h1⟩
  · have i1 : ¬ (1000 : Int) < s.size := by omega
    have i2 : (0 : Int) ≤ s.size := by omega
    have i3 : (s.size : Int) / 60 * 60 ≤ s.size := by omega
    have i4 : (0 : Int) ≤ (s.size : Int) / 60 * 60 := by omega
    have hb : ∀ x : Int, -9223372036854775808 ≤ bits BinOp.and IntKind.i64 x 15 ∧ bits BinOp.and IntKind.i64 x 15 ≤ 9223372036854775807 := fun x => ⟨bits_lo_i64 _ _ _, bits_hi_i64 _ _ _⟩
    have c1 := fun w => pages_Put s p w (by omega) hp
    have c2 := fun w => refP_Put s p w (by omega) hp
    have hz9 : (s.extract 0 (s.size / 60 * 60)).size ≤ 9223372036854775000 := by rw [ByteArray.size_extract]; omega
    have c3 := fun w => pages_Put (s.extract 0 (s.size / 60 * 60)) p w hz9 hp
    have c4 := fun w => refP_Put (s.extract 0 (s.size / 60 * 60)) p w hz9 hp
    have c5 := fun w => pages_Put (s.extract 0 (s.size / 60 * 60)) (bits BinOp.and IntKind.i64 p 15) w hz9 (hb p)
    have c6 := fun w => refP_Put (s.extract 0 (s.size / 60 * 60)) (bits BinOp.and IntKind.i64 p 15) w hz9 (hb p)
    clear hb hp hs
    generalize hA : bs (fileP (lb s) p) = A at c1 c2
    generalize hC : bs (fileP (lb (s.extract 0 (s.size / 60 * 60))) p) = C at c3 c4
    generalize hD : bs (fileP (lb (s.extract 0 (s.size / 60 * 60))) (bits BinOp.and IntKind.i64 p 15)) = D at c5 c6
    clear hA hC hD hz9
    go_enter Try.func8, Try.ntmps8
    go_wp2_with fail
    refine (c1 _).mono ?_
    rintro e w1 ⟨rfl, h1⟩
    go_wp2_with fail
    refine (c2 _).mono ?_
    rintro e w2 ⟨rfl, h2⟩
    go_wp2_with fail
    refine (c3 _).mono ?_
    rintro e w3 ⟨rfl, h3⟩
    go_wp2_with fail
    refine (c4 _).mono ?_
    rintro e w4 ⟨rfl, h4⟩
    go_wp2_with fail
    refine (c5 _).mono ?_
    rintro e w5 ⟨rfl, h5⟩
    go_wp2_with fail
    refine (c6 _).mono ?_
    rintro e w6 ⟨rfl, h6⟩
    clear c1 c2 c3 c4 c5 c6
    go_wp2_with fail
    refine (law_paged _).mono ?_
    rintro e w7 ⟨rfl, h7⟩
    go_wp2
    go_ret
    exact ⟨rfl, below_chain h1 (below_chain h2 (below_chain h3 (below_chain h4 (below_chain h5 (below_chain h6 h7)))))⟩
end Go.Proofs.Ytpoeginnoocenaa
