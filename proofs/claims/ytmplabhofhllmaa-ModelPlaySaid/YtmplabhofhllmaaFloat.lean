/-
  A number's bits: what math.Float64bits and math.Float64frombits tell.
-/
import Derived.Test.YtmplabhofhllmaaNums
import Derived.Laws.Externs
namespace Go.Proofs.Ytmplabhofhllmaa
open Go.RowKit
set_option linter.unusedVariables false

@[go_sem] theorem run_store_float {P : Program} {w : World} {a : Addr} {m : Mode} (k : FloatKind) (n : Nat) : (store a (.float k n) m).run P w = stored P w a (.float k n) m := run_store P w a _ m rfl
theorem run_f64bits (n : Nat) (w : World) : (callFunc 48 #[.float .f64 n]).run Try.prog w = .ok (.value (.int .u64 (n : Nat))) w := by
  rw [run_callFunc_extern (P := Try.prog) (fn := Try.f48) (e := Extern.MathFloatBits.float64bits) (by kernel_rfl) (by kernel_rfl) (by kernel_rfl) (by kernel_rfl) (by kernel_rfl)]
  rfl
end Go.Proofs.Ytmplabhofhllmaa
