/-
  Rows.EventsReadSaid: which event stands ahead of any bytes, and what is behind it, is the document's.
-/
import Derived.Test.YtiojapjidgjaoaaEvRef
import Derived.Test.YtiojapjidgjaoaaHappened
namespace Go.Proofs.Ytiojapjidgjaoaa
open Go.RowKit
set_option linter.unusedVariables false

set_option maxHeartbeats 1000000 in
theorem EventsRead_walk (s : ByteArray) (w : World) (hs : s.size ≤ maxLen) :
    Calls Try.prog 6 #[.string s] w fun e w' => e = .returned (.bool true) ∧ Below w.heap.size w w' := by
  unfold maxLen at hs
  by_cases h : s.size ≤ 2000
  · have h' : ¬ (2000 : Int) < s.size := by omega
    have c1 := fun w => events_Read s w (by omega)
    have c2 := fun w => ref_ReadV s w (by omega)
    have ok := okV_read (lb s) (by rw [length_lb]; unfold maxLen; omega)
    have sx := fun w => ref_Same _ _ w ok ok
    rw [decide_eq_true (show readV (lb s) = readV (lb s) from rfl)] at sx
    generalize readV (lb s) = r at c1 c2 ok sx
    generalize restV (lb s) = q at c1 c2
    generalize readOkV (lb s) = o at c1 c2
    obtain ⟨t, d, n⟩ := r
    unfold evC at c1 c2 sx
    simp only [] at c1 c2 sx
    have e1 : (q == q) = true := by simp
    have e2 : (o == o) = true := by simp
    go_enter Try.func6, Try.ntmps6
    go_wp2_with fail
    refine (c1 _).mono ?_
    rintro e w1 ⟨rfl, hb1⟩
    have b1 := ev_box w1 (t, d, n) 28
    have z1 := lit_below w1 (.cells #[.string t, .string d, .float .f64 n] 28)
    clear c1
    go_wp2_with fail
    refine (c2 _).mono ?_
    rintro e w2 ⟨rfl, hb2⟩
    have z2 := lit_below w2 (.cells #[.string t, .string d, .float .f64 n] 28)
    obtain ⟨x0, x1, x2⟩ := b1 _ (below_chain hb2 z2)
    have hb := below_chain hb1 (below_chain z1 (below_chain hb2 z2))
    try simp only [] at x0 x1 x2
    clear c2 b1 z1 z2 hb1 hb2
    go_wp2_with fail
    refine (sx _).mono ?_
    rintro e w3 ⟨rfl, hb3⟩
    go_wp2_with fail
    refine (law_happened _).mono ?_
    rintro e w4 ⟨rfl, hb4⟩
    go_wp2
    go_ret
    exact ⟨rfl, below_chain hb (below_chain hb3 hb4)⟩
  · have h' : (2000 : Int) < s.size := by omega
    go_enter Try.func6, Try.ntmps6
    go_wp2_with fail
    refine (law_happened _).mono ?_
    rintro e w1 ⟨rfl, hb1⟩
    go_wp2
    go_ret
    exact ⟨rfl, hb1⟩
end Go.Proofs.Ytiojapjidgjaoaa
