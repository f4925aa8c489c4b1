/-
  The records' examples: one record, two of them, one that is torn.
-/
import Derived.Test.YtjcdkekmploelaaWhole2
namespace Go.Proofs.Ytjcdkekmploelaa
open Go.RowKit
set_option linter.unusedVariables false

def exR : ByteArray := ⟨#[0, 0, 0, 2, 97, 98, 95, 47, 28, 109, 0, 0, 0, 2]⟩
def exRL : List UInt8 := [0, 0, 0, 2, 97, 98, 95, 47, 28, 109, 0, 0, 0, 2]
theorem lb_exR : lb exR = exRL := rfl
@[go_sem] theorem exR_size : exR.size = 14 := rfl
theorem exR_put : bs (putR [97, 98]) = exR := by
  have h : putR [97, 98] = exRL := by decide +kernel
  rw [h]; rfl
theorem exR_e : putE [97, 98] = 0 := by decide +kernel
theorem lb_exR2 : lb (exR ++ exR) = exRL ++ exRL := rfl
theorem exR2_size : (exR ++ exR).size = 28 := by rw [← length_lb, lb_exR2]; rfl
theorem lb_exR3 : lb ((exR ++ exR).extract 0 27) = (exRL ++ exRL).take 27 := by rw [bs_extract, lb_bs, lb_exR2]; rfl

theorem ex_recPut (w : World) :
    Calls Try.prog 17 #[.string ⟨#[97, 98]⟩] w fun e w' => e = .returned (.tuple #[.string exR, .int .i64 0]) ∧ Below w.heap.size w w' := by
  have c := records_Put ⟨#[97, 98]⟩ w (by decide)
  rw [show lb ⟨#[97, 98]⟩ = [97, 98] from rfl, exR_put, exR_e] at c
  exact c
theorem ex_recGet0 (w : World) :
    Calls Try.prog 21 #[.string exR, .int .i64 0] w fun e w' => e = .returned (.tuple #[.string ⟨#[97, 98]⟩, .int .i64 14, .bool true]) ∧ Below w.heap.size w w' := by
  have c := records_Get exR 0 w (by rw [exR_size]; decide) (by decide)
  rw [lb_exR, show gA exRL 0 = [97, 98] from by decide +kernel, show gN exRL 0 = 14 from by decide +kernel, show gOk exRL 0 = true from by decide +kernel] at c
  exact c
theorem ex_recGet1 (w : World) :
    Calls Try.prog 21 #[.string exR, .int .i64 1] w fun e w' => e = .returned (.tuple #[.string ⟨#[]⟩, .int .i64 0, .bool false]) ∧ Below w.heap.size w w' := by
  have c := records_Get exR 1 w (by rw [exR_size]; decide) (by decide)
  rw [lb_exR, show gA exRL 1 = [] from by decide +kernel, show gN exRL 1 = 0 from by decide +kernel, show gOk exRL 1 = false from by decide +kernel] at c
  exact c
theorem ex_recBack14 (w : World) :
    Calls Try.prog 22 #[.string exR, .int .i64 14] w fun e w' => e = .returned (.tuple #[.string ⟨#[97, 98]⟩, .int .i64 0, .bool true]) ∧ Below w.heap.size w w' := by
  have c := records_Back exR 14 w (by rw [exR_size]; decide) (by decide)
  rw [lb_exR, show bA exRL 14 = [97, 98] from by decide +kernel, show bP exRL 14 = 0 from by decide +kernel, show bOk exRL 14 = true from by decide +kernel] at c
  exact c
theorem ex_recBack13 (w : World) :
    Calls Try.prog 22 #[.string exR, .int .i64 13] w fun e w' => e = .returned (.tuple #[.string ⟨#[]⟩, .int .i64 0, .bool false]) ∧ Below w.heap.size w w' := by
  have c := records_Back exR 13 w (by rw [exR_size]; decide) (by decide)
  rw [lb_exR, show bA exRL 13 = [] from by decide +kernel, show bP exRL 13 = 0 from by decide +kernel, show bOk exRL 13 = false from by decide +kernel] at c
  exact c
/-- Whole of an example. -/
theorem ex_Whole (s : ByteArray) (l : List UInt8) (a : Int) (at_ : List Nat) (end_ : Nat) (w : World) (hs : s.size ≤ 1000000000000) (ha : -9223372036854775808 ≤ a ∧ a ≤ 9223372036854775807)
    (hl : lb s = l) (h1 : wAt l a = at_) (h2 : wEnd l a = end_) :
    Calls Try.prog 23 #[.string s, .int .i64 a] w fun e w' => ∃ v, e = .returned (.tuple #[v, .int .i64 end_]) ∧ Reads w' v 1 at_.length (natsC at_) ∧ Below w.heap.size w w' := by
  have c := records_Whole s a w hs ha
  rw [hl] at c
  unfold WholeTold at c
  rw [h1, h2] at c
  exact c
theorem ex_recWhole (w : World) :
    Calls Try.prog 23 #[.string (exR ++ exR), .int .i64 0] w fun e w' => ∃ v, e = .returned (.tuple #[v, .int .i64 28]) ∧ Reads w' v 1 2 (intsC [0, 14]) ∧ Below w.heap.size w w' :=
  ex_Whole _ _ 0 [0, 14] 28 w (by rw [exR2_size]; decide) (by decide) lb_exR2 (by decide +kernel) (by decide +kernel)
theorem ex_recTorn (w : World) :
    Calls Try.prog 23 #[.string ((exR ++ exR).extract 0 27), .int .i64 0] w fun e w' => ∃ v, e = .returned (.tuple #[v, .int .i64 14]) ∧ Reads w' v 1 1 (intsC [0]) ∧ Below w.heap.size w w' :=
  ex_Whole _ _ 0 [0] 14 w (by rw [← length_lb, lb_exR3]; decide) (by decide) lb_exR3 (by decide +kernel) (by decide +kernel)
theorem exR_head : exR.extract 0 6 = ⟨#[0, 0, 0, 2, 97, 98]⟩ := by rw [bs_extract, lb_exR]; rfl
theorem exR_tail : exR.extract 10 14 = ⟨#[0, 0, 0, 2]⟩ := by rw [bs_extract, lb_exR]; rfl
end Go.Proofs.Ytjcdkekmploelaa
