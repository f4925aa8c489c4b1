/-
  MODEL: one that is none: what its functions tell.
-/
import Derived.Test.YtmplabhofhllmaaMod1
namespace Go.Proofs.Ytmplabhofhllmaa
open Go.RowKit
set_option linter.unusedVariables false

theorem none_Flush (v : Value) (w : World) (h : NoneV w v) :
    Calls Try.prog 15 #[v] w fun e w' => e = .returned (.tuple #[]) ∧ w = w' := by
  have HN := model_none_yes v w h
  obtain ⟨o, rfl⟩ := h.ptr
  clear h
  go_enter Try.func15, Try.ntmps15
  go_wp2_with fail
  refine HN.mono ?_
  rintro e w' ⟨rfl, rfl⟩
  go_wp2
  go_end0
  exact ⟨rfl, rfl⟩
theorem none_All (v : Value) (w : World) (h : NoneV w v) :
    Calls Try.prog 17 #[v] w fun e w' => e = .returned (.slice none 0 0) ∧ w = w' := by
  have HN := model_none_yes v w h
  obtain ⟨o, rfl⟩ := h.ptr
  clear h
  go_enter Try.func17, Try.ntmps17
  go_wp2_with fail
  refine HN.mono ?_
  rintro e w' ⟨rfl, rfl⟩
  go_wp2
  go_ret
  exact ⟨rfl, rfl⟩
theorem none_Many (v : Value) (w : World) (h : NoneV w v) :
    Calls Try.prog 22 #[v] w fun e w' => e = .returned (.tuple #[.int .i64 0, .int .i64 0]) ∧ w = w' := by
  have HN := model_none_yes v w h
  obtain ⟨o, rfl⟩ := h.ptr
  clear h
  go_enter Try.func22, Try.ntmps22
  go_wp2_with fail
  refine HN.mono ?_
  rintro e w' ⟨rfl, rfl⟩
  go_wp2
  go_ret2
  exact ⟨rfl, rfl⟩
theorem none_Cut (v x : Value) (w : World) (h : NoneV w v) :
    Calls Try.prog 18 #[v, x] w fun e w' => e = .returned (.bool false) ∧ w = w' := by
  have HN := model_none_yes v w h
  obtain ⟨o, rfl⟩ := h.ptr
  clear h
  go_enter Try.func18, Try.ntmps18
  go_wp2_with fail
  go_step3
  go_wp2_with fail
  refine HN.mono ?_
  rintro e w' ⟨rfl, rfl⟩
  go_wp2
  try rw [Exit.noGoto_ret]
  go_ret
  exact ⟨rfl, rfl⟩
theorem none_Last (v : Value) (s : ByteArray) (w : World) (h : NoneV w v) :
    Calls Try.prog 13 #[v, .string s] w fun e w' => e = .returned (.tuple #[.int .i64 (-1), .int .i64 1]) ∧ w = w' := by
  have HN := model_none_yes v w h
  obtain ⟨o, rfl⟩ := h.ptr
  clear h
  go_enter Try.func13, Try.ntmps13
  go_wp2_with fail
  refine HN.mono ?_
  rintro e w' ⟨rfl, rfl⟩
  go_wp2
  go_ret2
  exact ⟨rfl, rfl⟩
theorem none_page (v : Value) (s : ByteArray) (a b : Int) (d : Bool) (w : World) (h : NoneV w v) :
    Calls Try.prog 23 #[v, .string s, .int .i64 a, .int .i64 b, .bool d] w fun e w' => e = .returned (.tuple #[.slice none 0 0, .int .i64 1]) ∧ w = w' := by
  have HN := model_none_yes v w h
  obtain ⟨o, rfl⟩ := h.ptr
  clear h
  go_enter Try.func23, Try.ntmps23
  go_wp2_with fail
  refine HN.mono ?_
  rintro e w' ⟨rfl, rfl⟩
  go_wp2
  go_ret2
  exact ⟨rfl, rfl⟩
theorem none_Forward (v : Value) (s : ByteArray) (a b : Int) (w : World) (h : NoneV w v) :
    Calls Try.prog 9 #[v, .string s, .int .i64 a, .int .i64 b] w fun e w' => e = .returned (.tuple #[.slice none 0 0, .int .i64 1]) ∧ w = w' := by
  have HN := none_page v s a b false w h
  obtain ⟨o, rfl⟩ := h.ptr
  clear h
  go_enter Try.func9, Try.ntmps9
  go_wp2_with fail
  refine HN.mono ?_
  rintro e w' ⟨rfl, rfl⟩
  go_wp2
  go_ret2
  exact ⟨rfl, rfl⟩
theorem none_Backward (v : Value) (s : ByteArray) (a b : Int) (w : World) (h : NoneV w v) :
    Calls Try.prog 12 #[v, .string s, .int .i64 a, .int .i64 b] w fun e w' => e = .returned (.tuple #[.slice none 0 0, .int .i64 1]) ∧ w = w' := by
  have HN := none_page v s a b true w h
  obtain ⟨o, rfl⟩ := h.ptr
  clear h
  go_enter Try.func12, Try.ntmps12
  go_wp2_with fail
  refine HN.mono ?_
  rintro e w' ⟨rfl, rfl⟩
  go_wp2
  go_ret2
  exact ⟨rfl, rfl⟩
set_option maxHeartbeats 1000000 in
theorem none_Append (v : Value) (s : ByteArray) (a : Int) (ve : Value) (l : List Ev) (w : World) (h : NoneV w v) (hl : Evs w ve l) (hn : l.length ≤ 1000000) (hs : s.size ≤ maxLen) :
    Calls Try.prog 20 #[v, .string s, .int .i64 a, ve] w fun e w' => e = .returned (.tuple #[.int .i64 0, .int .i64 1]) ∧ Below w.heap.size w w' := by
  obtain ⟨o, rfl⟩ := h.ptr
  obtain ⟨A, c, rfl, -⟩ := id hl.1
  obtain ⟨i0, hi0, hz0, hz1, hz2⟩ := info_parts infoEv
  have hown0 : w.ownsRow w.heap.size 46 3 (.slice none 0 0) 0 [] := World.ownsRow_nil _ _ _ _
  have hone : ∀ u ∈ l.flatMap evL, u.oneCell' = true := by
    intro u hu
    obtain ⟨t, -, h⟩ := List.mem_flatMap.1 hu
    unfold evL at h
    simp only [List.mem_cons, List.not_mem_nil, or_false] at h
    rcases h with rfl | rfl | rfl <;> rfl
  have Hl := Lib.hid hl
  have H := Lib.hid h
  clear h hl
  go_enter Try.func20, Try.ntmps20
  go_wp2_with (first
    | (at_builtin; refine wpList_append_reads _ rfl _ _ 32 rfl w.heap.size 46 i0 _ 3 40 Try.underlying32 hi0 hz0 hz1 hz2 rfl (by decide) _ 0 _ rfl hown0 _ _ _ rfl Hl.out.1 hone (by unfold maxLen; omega) (by omega) (Nat.le_refl _) ?_; intro v3 w3 hown3 hg3; rw [Nat.zero_add, List.nil_append] at hown3; obtain ⟨A3, c3, rfl, -⟩ := Reads.of_own hown3))
  have hb3 : Below w.heap.size w w3 := (Below.refl _ _).grown hg3 (Nat.le_refl _) (own_block_ge hown0)
  have hz := lit_below w3 (.cells #[.string s, .int .i64 0, .slice A3 l.length c3] 65)
  have hbv : BatV w3 (.agg #[.string s, .int .i64 0, .slice A3 l.length c3]) (s, 0, l) := ⟨A3, c3, rfl, ⟨Reads.of_own hown3, Hl.out.2⟩, hs, by simp only []; omega, by simp only []; omega⟩
  refine (batches_Check _ _ _ (hbv.next hz)).mono ?_
  rintro e w4 ⟨rfl, hb4⟩
  have HN := model_none_yes _ w4 (H.out.next (below_chain hb3 (below_chain hz hb4)))
  clear hbv
  go_wp2_with fail
  refine HN.mono ?_
  rintro e w' ⟨rfl, rfl⟩
  go_wp2
  go_ret2
  exact ⟨rfl, below_chain hb3 (below_chain hz hb4)⟩
end Go.Proofs.Ytmplabhofhllmaa
