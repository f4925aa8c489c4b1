/-
  The tables' law's own examples hold.
-/
import Derived.Test.YtikodobglhjoiaaTables3
import Derived.Test.YtikodobglhjoiaaTables4
namespace Go.Proofs.Ytikodobglhjoiaa
open Go.RowKit
set_option linter.unusedVariables false

theorem putT_nil : (putT []).length = 12 ∧ (putT []).take 8 = [112, 116, 97, 98, 0, 0, 0, 0] := ⟨rfl, rfl⟩
theorem ents_nil (w : World) : Ents w (.slice none 0 0) [] := ⟨Reads.nil _ _, by simp⟩
theorem ex_Size (n r : Int) (w : World) (hn : -9223372036854775808 ≤ n ∧ n ≤ 9223372036854775807) (h : sizeT n = r) :
    Calls Try.prog 49 #[.int .i64 n] w fun e w' => e = .returned (.int .i64 r) ∧ w = w' := by rw [← h]; exact tables_Size n w hn
theorem ex_At (n r : Int) (w : World) (hn : -9223372036854775808 ≤ n ∧ n ≤ 9223372036854775807) (h : atT n = r) :
    Calls Try.prog 50 #[.int .i64 n] w fun e w' => e = .returned (.int .i64 r) ∧ w = w' := by rw [← h]; exact tables_At n w hn

set_option maxHeartbeats 1000000 in
theorem law_laid (w : World) :
    Calls Try.prog 42 #[] w fun e w' => e = .returned (.bool true) ∧ Below w.heap.size w w' := by
  obtain ⟨h12, h8⟩ := putT_nil
  have he : errT [] = 0 := rfl
  have hp := fun w => tables_Put (.slice none 0 0) [] w (ents_nil w) (by simp)
  rw [he] at hp
  generalize putT [] = P at h12 h8 hp
  have hx : ((bs P).extract 0 8).toList = [112, 116, 97, 98, 0, 0, 0, 0] := by rw [bs_extract, lb_bs, toList_bs]; simpa using h8
  have hx2 : (((bs P).extract 0 8).toList == [112, 116, 97, 98, 0, 0, 0, 0]) = true := by rw [hx]; rfl
  have hg := fun w => tables_Get (⟨#[112, 116, 97, 98]⟩ : ByteArray) w (by decide)
  have hte : tabE (lb (⟨#[112, 116, 97, 98]⟩ : ByteArray)) = 90 := rfl
  rw [hte] at hg
  clear h8 hx he hte
  go_enter Try.func42, Try.ntmps42
  go_wp2_with fail
  refine (hp _).mono ?_
  rintro e w1 ⟨rfl, hb1⟩
  go_wp2_with fail
  refine (hg _).mono ?_
  rintro e w2 ⟨v, rfl, -, hb2⟩
  go_wp2_with fail
  refine (ex_Size 0 12 _ (by omega) rfl).mono ?_
  rintro e w' ⟨rfl, rfl⟩
  go_wp2_with fail
  refine (ex_At 2 56 _ (by omega) rfl).mono ?_
  rintro e w' ⟨rfl, rfl⟩
  go_wp2
  go_ret
  exact ⟨rfl, below_chain hb1 hb2⟩
end Go.Proofs.Ytikodobglhjoiaa
