/-
  Rows.MemtableNoneSaid: a table that is none has nothing, and takes nothing.
-/
import Derived.Test.YtikodobglhjoiaaOpenAct
import Derived.Test.YtikodobglhjoiaaKept
namespace Go.Proofs.Ytikodobglhjoiaa
open Go.RowKit
set_option linter.unusedVariables false

set_option maxHeartbeats 2000000 in
theorem MemtableNone_walk (v0 : Value) (a : Act3) (w : World) (h0 : ActIs v0 a) :
    Calls Try.prog 9 #[v0] w fun e w' => e = .returned (.bool true) ∧ Below w.heap.size w w' := by
  obtain ⟨rfl, ha⟩ := h0
  obtain ⟨kd, ⟨x1, x2, x3⟩, to⟩ := a
  obtain ⟨ok1, oe, oto⟩ := ha
  simp only [] at ok1 oe oto
  have hz := below_lit w (.cells (actL (kd, (x1, x2, x3), to)).toArray 53)
  have hrow : Row (w.alloc (.cells (actL (kd, (x1, x2, x3), to)).toArray 53)) w.heap.size 53 [.int .u8 kd, .int .u64 x1, .int .i64 x2, .int .i64 x3, .int .i64 to] := Row.new w (actL (kd, (x1, x2, x3), to)).toArray 53
  have Hrow := Lib.hid hrow
  clear hrow
  go_enter Try.func9, Try.ntmps9
  go_wp2_with fail
  go_loopw [3, 4] (fun t i wr => ∃ k : Nat, k ≤ 2 ∧ i = .int .i64 (k : Int) ∧ NoTab wr t ∧ Below (w.alloc (.cells (actL (kd, (x1, x2, x3), to)).toArray 53)).heap.size (w.alloc (.cells (actL (kd, (x1, x2, x3), to)).toArray 53)) wr) (fun _ i _ => 2 - (intOf i).toNat)
  case atStart => exact ⟨0, by omega, rfl, .inl rfl, Below.refl _ _⟩
  case round =>
    obtain ⟨k, hk, rfl, hT, hbr⟩ := hrel
    by_cases hlt : k < 2
    · have i1 : (k : Int) < 2 := by omega
      have cells : ∀ w', Below wr.heap.size wr w' → w'.cell? ⟨w.heap.size, 1, none⟩ = some (.int .u64 x1) ∧ w'.cell? ⟨w.heap.size, 2, none⟩ = some (.int .i64 x2) ∧ w'.cell? ⟨w.heap.size, 3, none⟩ = some (.int .i64 x3) ∧ w'.cell? ⟨w.heap.size, 4, none⟩ = some (.int .i64 to) := fun w' hb => by
        have hr := Hrow.out.next (below_chain hbr hb)
        exact ⟨hr.cell 1 (by simp), hr.cell 2 (by simp), hr.cell 3 (by simp), hr.cell 4 (by simp)⟩
      have Cells := Lib.hid cells
      obtain ⟨c1, c2, c3, c4⟩ := cells wr (Below.refl _ _)
      clear cells
      go_wp2_with fail
      refine (tab_Last_no hT _ _).mono ?_
      rintro e w1 ⟨rfl, hb1⟩
      have hb1' := below_chain hb1 (below_lit w1 (.cells #[.int .u64 0, .int .i64 0, .int .i64 0] 25))
      have hT1 := hT.next hb1'
      obtain ⟨d1, d2, d3, d4⟩ := Cells.out _ hb1'
      have hx := fun w' hb => ent_box w1 (0, 0, 0) 25 w' hb
      have Hx := Lib.hid hx
      clear c1 c2 c3 c4 hx
      go_wp2_with fail
      refine (tab_Add_no hT1 (x1, x2, x3)).mono ?_
      rintro e w2 ⟨rfl, hb2⟩
      have hT2 := hT1.next hb2
      have hb12 := below_chain hb1' hb2
      obtain ⟨q1, q2, q3, q4⟩ := Cells.out _ hb12
      obtain ⟨z0, z1, z2⟩ := Hx.out w2 hb2
      try simp only [] at z0 z1 z2
      clear d1 d2 d3 d4
      go_wp2_with fail
      refine (tab_Len_no hT2).mono ?_
      rintro e w' ⟨rfl, rfl⟩
      go_wp2_with fail
      refine (tab_Dump_no hT2).mono ?_
      rintro e w' ⟨rfl, rfl⟩
      go_wp2_with fail
      refine (tab_Range_no hT2 _ _ _).mono ?_
      rintro e w' ⟨rfl, rfl⟩
      go_wp2_with fail
      refine (tab_Clear_no hT2).mono ?_
      rintro e w' ⟨rfl, rfl⟩
      go_wp2
      go_roundw
      case rel => exact ⟨k + 1, by omega, by go_num, .inr ⟨_, _, rfl, Row.new w2 #[.bool false, .slice none 0 0] _⟩, below_chain hbr (below_chain hb12 (below_lit _ _))⟩
      case measure => simp [intOf]; omega
    · have i1 : ¬ (k : Int) < 2 := by omega
      go_wp2_with fail
      refine (law_kept _).mono ?_
      rintro e w1 ⟨rfl, hb1⟩
      go_wp2
      go_ret
      exact ⟨rfl, below_chain hz (below_chain hbr hb1)⟩
end Go.Proofs.Ytikodobglhjoiaa
