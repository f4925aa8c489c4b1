/-
  An array of two numbers of 16 bits that came in, opened.
-/
import Derived.Test.YtikodobglhjoiaaNums
import Derived.Test.YtikodobglhjoiaaOpenArr
namespace Go.Proofs.Ytikodobglhjoiaa
open Go.RowKit Go.ChangeShapes Go.WideShapes
set_option linter.unusedVariables false

theorem cells_u16 : Try.prog.cellsOf 71 = 1 := by kernel_rfl
theorem cells_two16 : Try.prog.cellsOf 72 = 2 := by kernel_rfl
def TwoIs (v : Value) (a : Nat × Nat) : Prop := v = .agg #[.int .u16 (a.1 : Nat), .int .u16 (a.2 : Nat)] ∧ a.1 < 65536 ∧ a.2 < 65536
theorem open_2uint16 {H : Type} {enc : TypeId × Value → H} {W : World} {base : Nat} {v : Value} {d : DataW H} {p : List MemPlace} (hval : Value.okWide Try.prog W .any base 72 v) (h : DataW.Trod enc Try.prog W 0 (fun _ => true) true 72 v d p) :
    ∃ a, TwoIs v a := by
  obtain ⟨l, h1, h2, h3⟩ := open_arr Try.underlying72 cells_u16 cells_two16 (fun b : Nat => Value.int .u16 (b : Nat)) (fun b => b < 65536) (fun m c y h => by
    obtain ⟨x, e, -, hw⟩ := DataW.trod_int Try.underlying71 h
    simp at e
    have hb := bounds_u16 hw
    refine ⟨x.toNat, by omega, ?_⟩
    rw [e]; congr 1; omega) hval h
  match l, h2 with
  | [a, b], _ => exact ⟨(a, b), by simpa using h1, h3 a (by simp), h3 b (by simp)⟩
end Go.Proofs.Ytikodobglhjoiaa
