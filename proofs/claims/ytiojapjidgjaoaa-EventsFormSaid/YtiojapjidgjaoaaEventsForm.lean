/-
  Rows.EventsFormSaid: what is read has the bytes that stood there, and may be.
-/
import Derived.Test.YtiojapjidgjaoaaEvRead
import Derived.Test.YtiojapjidgjaoaaHappened
namespace Go.Proofs.Ytiojapjidgjaoaa
open Go.RowKit
set_option linter.unusedVariables false

set_option maxHeartbeats 1000000 in
theorem EventsForm_walk (s : ByteArray) (w : World) (hs : s.size ≤ maxLen) :
    Calls Try.prog 8 #[.string s] w fun e w' => e = .returned (.bool true) ∧ Below w.heap.size w w' := by
  unfold maxLen at hs
  by_cases h : s.size ≤ 1000
  · obtain ⟨L, rfl⟩ : ∃ L, s = bs L := ⟨lb s, (bs_lb s).symm⟩
    rw [size_bs] at h hs
    have h' : ¬ (1000 : Int) < L.length := by omega
    have c1 := fun w => events_Read (bs L) w (by rw [size_bs]; omega)
    simp only [lb_bs] at c1
    have ok := okV_read L (by unfold maxLen; omega)
    rcases ho : readOkV L with _ | _
    · obtain ⟨n1, n2⟩ := none_read ho
      rw [ho] at c1
      rw [n1, n2] at c1
      unfold evC ev0 at c1
      simp only [] at c1
      go_enter Try.func8, Try.ntmps8
      go_wp2_with fail
      refine (c1 _).mono ?_
      rintro e w1 ⟨rfl, hb1⟩
      have z1 := lit_below w1 (.cells #[.string ⟨#[]⟩, .string ⟨#[]⟩, .float .f64 0] 28)
      clear c1
      go_wp2_with fail
      refine (ex_SameV (⟨#[]⟩, ⟨#[]⟩, 0) (⟨#[]⟩, ⟨#[]⟩, 0) true _ ⟨Nat.zero_le _, Nat.zero_le _, by decide⟩ ⟨Nat.zero_le _, Nat.zero_le _, by decide⟩ (by decide)).mono ?_
      rintro e w2 ⟨rfl, hb2⟩
      go_wp2_with fail
      refine (law_happened _).mono ?_
      rintro e w3 ⟨rfl, hb3⟩
      go_wp2
      go_ret
      exact ⟨rfl, below_chain hb1 (below_chain z1 (below_chain hb2 hb3))⟩
    · obtain ⟨p1, p2⟩ := read_put ho
      rw [ho] at c1
      have k1 := fun w => events_Check (readV L) w ok
      have k2 := fun w => events_Bytes (readV L) w ok
      have bl := bytesV_length_le (readV L)
      have ql : (restV L).length ≤ 1000 := by have := congrArg List.length p2; rw [List.length_append] at this; omega
      rw [p1] at k1
      generalize readV L = r at c1 ok k1 k2 p2 bl
      generalize restV L = q at c1 p2 ql
      generalize bytesV r = B at k2 p2 bl
      obtain ⟨t, d, n⟩ := r
      unfold evC at c1 k1 k2
      simp only [] at c1 k1 k2
      have e1 : ((bs B ++ bs q).toList == L) = true := by rw [bs_append, toList_bs, p2]; simp
      clear p1 p2 ho
      go_enter Try.func8, Try.ntmps8
      go_wp2_with fail
      refine (c1 _).mono ?_
      rintro e w1 ⟨rfl, hb1⟩
      have b1 := ev_box w1 (t, d, n) 28
      have z1 := lit_below w1 (.cells #[.string t, .string d, .float .f64 n] 28)
      clear c1
      go_wp2_with fail
      refine (k1 _).mono ?_
      rintro e w2 ⟨rfl, hb2⟩
      obtain ⟨x0, x1, x2⟩ := b1 _ hb2
      try simp only [] at x0 x1 x2
      go_wp2_with fail
      refine (k2 _).mono ?_
      rintro e w3 ⟨rfl, hb3⟩
      go_wp2_with fail
      refine (law_happened _).mono ?_
      rintro e w4 ⟨rfl, hb4⟩
      go_wp2
      go_ret
      exact ⟨rfl, below_chain hb1 (below_chain z1 (below_chain hb2 (below_chain hb3 hb4)))⟩
  · have h' : (1000 : Int) < s.size := by omega
    go_enter Try.func8, Try.ntmps8
    go_wp2_with fail
    refine (law_happened _).mono ?_
    rintro e w1 ⟨rfl, hb1⟩
    go_wp2
    go_ret
    exact ⟨rfl, hb1⟩
end Go.Proofs.Ytiojapjidgjaoaa
