/-
  An array of six numbers of 32 bits that came in, opened.
-/
import Derived.Test.YtpoeginnoocenaaNums
import Derived.Test.YtpoeginnoocenaaOpenArr
namespace Go.Proofs.Ytpoeginnoocenaa
open Go.RowKit Go.ChangeShapes Go.WideShapes
set_option linter.unusedVariables false

theorem cells_u32x : Try.prog.cellsOf 55 = 1 := by kernel_rfl
theorem cells_six32 : Try.prog.cellsOf 56 = 6 := by kernel_rfl
def u32C (l : List Nat) : List Value := l.map fun (n : Nat) => .int .u32 (n : Int)
def SixIs (v : Value) (a : List Nat) : Prop := v = .agg (u32C a).toArray ∧ a.length = 6 ∧ ∀ x ∈ a, x < 4294967296
theorem open_6uint32 {H : Type} {enc : TypeId × Value → H} {W : World} {base : Nat} {v : Value} {d : DataW H} {p : List MemPlace} (hval : Value.okWide Try.prog W .any base 56 v) (h : DataW.Trod enc Try.prog W 0 (fun _ => true) true 56 v d p) :
    ∃ a, SixIs v a := by
  obtain ⟨l, h1, h2, h3⟩ := open_arr Try.underlying56 cells_u32x cells_six32 (fun b : Nat => Value.int .u32 (b : Nat)) (fun b => b < 4294967296) (fun m c y h => by
    obtain ⟨x, e, -, hw⟩ := DataW.trod_int Try.underlying55 h
    simp at e
    have hb := bounds_u32 hw
    refine ⟨x.toNat, by omega, ?_⟩
    rw [e]; congr 1; omega) hval h
  exact ⟨l, h1, h2, h3⟩
end Go.Proofs.Ytpoeginnoocenaa
