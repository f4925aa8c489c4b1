/-
  'make([]byte, n)': its run, and the row that it makes.
-/
import Derived.Test.YtpoeginnoocenaaRegion
import Derived.Test.YtpoeginnoocenaaNums
import Derived.Deep.OwnRows
namespace Go.Proofs.Ytpoeginnoocenaa
open Go.RowKit
set_option linter.unusedVariables false

theorem infoByteAll : (Try.prog.info? 5).map (fun i => (i.zero, i.size, i.bytes)) = some (some (.int .u8 0), 1, 1) := by kernel_rfl
theorem make_bytes (w : World) (n : Nat) (hn : n ≤ 1000000000) :
    ∃ w', (Instr.makeSlice 34 (.int .i64 (n : Int)) (.int .i64 (n : Int))).run Try.prog w = .ok (.slice (some ⟨w.heap.size, 0, none⟩) n n) w' ∧ Row w' w.heap.size 5 (cellsB (List.replicate n 0)) ∧ Below w.heap.size w w' := by
  refine ⟨_, run_make_row' 34 5 (.int .u8 0) 1 Try.underlying34 infoByteAll rfl .i64 .i64 n (by omega) (by omega) w, ?_, (Below.refl _ _).alloc (Nat.le_refl _) _⟩
  have h := Row.new w (madeCells #[.int .u8 0] n) 5
  have e : (madeCells #[Value.int .u8 0] n).toList = cellsB (List.replicate n 0) := by
    have := made_bytes n
    simp only [Nat.mul_one, Value.cells] at this
    rw [this]; simp [cellsB, zeroB]
  rw [e] at h
  exact h
/-- '[]byte' of zeros, and 'string' of it. -/
theorem make_zeros (w : World) (n : Nat) (hn : n ≤ 1000000000) :
    ∃ w' Z, (Instr.makeSlice 34 (.int .i64 (n : Int)) (.int .i64 (n : Int))).run Try.prog w = .ok (.slice (some ⟨w.heap.size, 0, none⟩) n n) w' ∧
      (convert 34 9 (.slice (some ⟨w.heap.size, 0, none⟩) n n)).run Try.prog w' = .ok (.string (bs Z)) w' ∧ Z.length = n ∧ Below w.heap.size w w' := by
  obtain ⟨w', h1, h2, h3⟩ := make_bytes w n hn
  exact ⟨w', List.replicate n 0, h1, Row.conv h2 (by simp) Try.underlying34 Try.underlying5 Try.underlying9, List.length_replicate, h3⟩
end Go.Proofs.Ytpoeginnoocenaa
