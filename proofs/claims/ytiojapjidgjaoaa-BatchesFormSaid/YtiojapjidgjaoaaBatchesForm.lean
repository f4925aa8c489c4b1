/-
  Rows.BatchesFormSaid: what is got has the bytes that it was got from, and may be.
-/
import Derived.Test.YtiojapjidgjaoaaBatGet
import Derived.Test.YtiojapjidgjaoaaBatched
namespace Go.Proofs.Ytiojapjidgjaoaa
open Go.RowKit
set_option linter.unusedVariables false

set_option maxHeartbeats 1000000 in
theorem BatchesForm_walk (s : ByteArray) (w : World) (hs : s.size ≤ maxLen) :
    Calls Try.prog 12 #[.string s] w fun e w' => e = .returned (.bool true) ∧ Below w.heap.size w w' := by
  unfold maxLen at hs
  by_cases h : s.size ≤ 3000
  · obtain ⟨L, rfl⟩ : ∃ L, s = bs L := ⟨lb s, (bs_lb s).symm⟩
    rw [size_bs] at h hs
    have h' : ¬ (3000 : Int) < L.length := by omega
    have c1 := fun w => batches_Get (bs L) w (by rw [size_bs]; omega)
    simp only [lb_bs] at c1
    rcases ho : seenB L with _ | _
    · have hE : batE L = 10 := by unfold batE; rw [ho]; rfl
      have hV : batV L = (ByteArray.empty, 0, []) := by unfold batV; rw [ho]; rfl
      rw [hE, hV] at c1
      go_enter Try.func12, Try.ntmps12
      go_wp2_with fail
      refine (c1 _).mono ?_
      rintro e w1 ⟨v1, rfl, hv1, hb1⟩
      obtain ⟨A1, k1, rfl, -⟩ := id hv1
      simp only [List.length_nil] at hv1
      have R1 := Row.new w1 #[.string ByteArray.empty, .int .i64 0, .slice A1 0 k1] 49
      have z1 := lit_below w1 (.cells #[.string ByteArray.empty, .int .i64 0, .slice A1 0 k1] 49)
      obtain ⟨x0, x1, x2, -, -, -⟩ := row_agg R1
      have hv1' := hv1.next z1
      clear c1 R1 hv1
      go_wp2_with fail
      refine (ex_SameB _ _ (ByteArray.empty, 0, []) (ByteArray.empty, 0, []) true _ hv1' (batV_none _) (by decide +kernel)).mono ?_
      rintro e w2 ⟨rfl, hb2⟩
      go_wp2_with fail
      refine (law_batched _).mono ?_
      rintro e w3 ⟨rfl, hb3⟩
      go_wp2
      go_ret
      exact ⟨rfl, below_chain hb1 (below_chain z1 (below_chain hb2 hb3))⟩
    · have hE : batE L = 0 := by unfold batE; rw [ho]; rfl
      obtain ⟨p1, p2⟩ := got_form ho
      rw [hE] at c1
      generalize batV L = b at c1 p1 p2
      obtain ⟨s1, f1, l1⟩ := b
      go_enter Try.func12, Try.ntmps12
      go_wp2_with fail
      refine (c1 _).mono ?_
      rintro e w1 ⟨v1, rfl, hv1, hb1⟩
      obtain ⟨A1, k1, rfl, -⟩ := id hv1
      simp only [] at hv1
      have R1 := Row.new w1 #[.string s1, .int .i64 f1, .slice A1 l1.length k1] 49
      have z1 := lit_below w1 (.cells #[.string s1, .int .i64 f1, .slice A1 l1.length k1] 49)
      obtain ⟨x0, x1, x2, -, -, -⟩ := row_agg R1
      have hv1' := hv1.next z1
      have hp := batches_Put _ _ _ hv1'
      rw [p1, p2] at hp
      clear c1 hv1
      go_wp2_with fail
      refine hp.mono ?_
      rintro e w2 ⟨rfl, hb2⟩
      clear x0 x1 x2
      obtain ⟨x0, x1, x2, -, -, -⟩ := row_agg (R1.next hb2)
      have hk := batches_Check _ _ _ (hv1'.next hb2)
      rw [p1] at hk
      clear R1 hp hv1' p1 p2
      go_wp2_with fail
      refine hk.mono ?_
      rintro e w3 ⟨rfl, hb3⟩
      clear hk
      go_wp2_with fail
      refine (law_batched _).mono ?_
      rintro e w4 ⟨rfl, hb4⟩
      go_wp2
      go_ret
      exact ⟨rfl, below_chain hb1 (below_chain z1 (below_chain hb2 (below_chain hb3 hb4)))⟩
  · have h' : (3000 : Int) < s.size := by omega
    go_enter Try.func12, Try.ntmps12
    go_wp2_with fail
    refine (law_batched _).mono ?_
    rintro e w1 ⟨rfl, hb1⟩
    go_wp2
    go_ret
    exact ⟨rfl, hb1⟩
end Go.Proofs.Ytiojapjidgjaoaa
