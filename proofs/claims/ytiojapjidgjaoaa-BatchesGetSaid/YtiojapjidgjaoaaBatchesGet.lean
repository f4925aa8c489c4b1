/-
  Rows.BatchesGetSaid: which batch any bytes hold, and whether they hold one, is the document's.
-/
import Derived.Test.YtiojapjidgjaoaaBatRefGet
import Derived.Test.YtiojapjidgjaoaaBatched
namespace Go.Proofs.Ytiojapjidgjaoaa
open Go.RowKit
set_option linter.unusedVariables false

set_option maxHeartbeats 1000000 in
theorem BatchesGet_walk (s : ByteArray) (w : World) (hs : s.size ≤ maxLen) :
    Calls Try.prog 10 #[.string s] w fun e w' => e = .returned (.bool true) ∧ Below w.heap.size w w' := by
  unfold maxLen at hs
  by_cases h : s.size ≤ 3000
  · have h' : ¬ (3000 : Int) < s.size := by omega
    have c1 := fun w => batches_Get s w (by omega)
    have c2 := fun w => refB_Get s w (by omega)
    generalize batV (lb s) = b at c1 c2
    generalize batE (lb s) = o at c1 c2
    obtain ⟨s1, f1, l1⟩ := b
    have e2 : (o == o) = true := by simp
    go_enter Try.func10, Try.ntmps10
    go_wp2_with fail
    refine (c1 _).mono ?_
    rintro e w1 ⟨v1, rfl, hv1, hb1⟩
    obtain ⟨A1, k1, rfl, -⟩ := id hv1
    simp only [] at hv1
    have R1 := Row.new w1 #[.string s1, .int .i64 f1, .slice A1 l1.length k1] 49
    have z1 := lit_below w1 (.cells #[.string s1, .int .i64 f1, .slice A1 l1.length k1] 49)
    go_wp2_with fail
    refine (c2 _).mono ?_
    rintro e w2 ⟨v2, rfl, hv2, hb2⟩
    obtain ⟨A2, k2, rfl, -⟩ := id hv2
    simp only [] at hv2
    have R2 := Row.new w2 #[.string s1, .int .i64 f1, .slice A2 l1.length k2] 49
    have z2 := lit_below w2 (.cells #[.string s1, .int .i64 f1, .slice A2 l1.length k2] 49)
    have R1' := R1.next (below_chain hb2 z2)
    obtain ⟨x0, x1, x2, -, -, -⟩ := row_agg R1'
    obtain ⟨y0, y1, y2, -, -, -⟩ := row_agg R2
    have hv1' := hv1.next (below_chain z1 (below_chain hb2 z2))
    have hv2' := hv2.next z2
    have sx := fun w hb => refB_Same _ _ _ _ w (hv1'.next (w' := w) hb) (hv2'.next hb)
    rw [decide_eq_true rfl] at sx
    have hb := below_chain hb1 (below_chain z1 (below_chain hb2 z2))
    clear c1 c2 R1 R2 R1' hv1 hv2 hv1' hv2' z1 z2 hb1 hb2
    go_wp2_with fail
    refine (sx _ (Below.refl _ _)).mono ?_
    rintro e w3 ⟨rfl, hb3⟩
    clear sx
    go_wp2_with fail
    refine (law_batched _).mono ?_
    rintro e w4 ⟨rfl, hb4⟩
    go_wp2
    go_ret
    exact ⟨rfl, below_chain hb (below_chain hb3 hb4)⟩
  · have h' : (3000 : Int) < s.size := by omega
    go_enter Try.func10, Try.ntmps10
    go_wp2_with fail
    refine (law_batched _).mono ?_
    rintro e w1 ⟨rfl, hb1⟩
    go_wp2
    go_ret
    exact ⟨rfl, hb1⟩
end Go.Proofs.Ytiojapjidgjaoaa
