/-
  '==' and '!=' on entries.
-/
import Derived.Test.YtikodobglhjoiaaEntGet
import Derived.Laws.StructEq
namespace Go.Proofs.Ytikodobglhjoiaa
open Go.RowKit
set_option linter.unusedVariables false

theorem ent_held : Try.prog.stoodInHeld 25 = false := by kernel_rfl
theorem ent_guard : Try.prog.eqGuardType Try.prog.depth 25 = false := by kernel_rfl
@[go_sem] theorem ent_eqGuard (op : BinOp) (x y : Operand) (xs ys : Array Value) (w : World) : (eqGuard op 25 x y (.agg xs) (.agg ys)).run Try.prog w = .ok () w :=
  run_eqGuard_agg w op _ x y xs ys ent_guard
theorem ent_equalIn (a a' : Nat) (b c b' c' : Int) (w : World) :
    (Op.equalIn 10000 25 (.agg #[.int .u64 a, .int .i64 b, .int .i64 c]) (.agg #[.int .u64 a', .int .i64 b', .int .i64 c'])).run Try.prog w = .ok (decide (a = a' ∧ b = b' ∧ c = c')) w := by
  rw [run_equalIn_agg w 9999 _ _ _ (by simp [Program.fieldsOf, Try.underlying25]) ent_held]
  simp [Program.fieldsOf, Try.underlying25, Op.eqFields, go_sem, Try.underlying23, Try.underlying3]
  by_cases h1 : a = a'
  · subst h1
    by_cases h2 : b = b'
    · by_cases h3 : c = c'
      · simp [h2, h3]
      · simp [h2, h3]
    · simp [h2]
  · have h1' : ¬ (a : Int) = a' := by omega
    simp [h1, h1']
@[simp, go_sem] theorem ent_eql (a a' : Nat) (b c b' c' : Int) (w : World) :
    (binOp .eql 25 (.agg #[.int .u64 a, .int .i64 b, .int .i64 c]) (.agg #[.int .u64 a', .int .i64 b', .int .i64 c'])).run Try.prog w = .ok (.bool (decide (a = a' ∧ b = b' ∧ c = c'))) w := by
  rw [run_eql_struct, ent_equalIn]; rfl
@[simp, go_sem] theorem ent_neq (a a' : Nat) (b c b' c' : Int) (w : World) :
    (binOp .neq 25 (.agg #[.int .u64 a, .int .i64 b, .int .i64 c]) (.agg #[.int .u64 a', .int .i64 b', .int .i64 c'])).run Try.prog w = .ok (.bool (!decide (a = a' ∧ b = b' ∧ c = c'))) w := by
  rw [run_neq_struct, ent_equalIn]; rfl
end Go.Proofs.Ytikodobglhjoiaa
