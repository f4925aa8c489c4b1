/-
  What is done with a table, opened: an act, a list of acts.
-/
import Derived.Test.YtikodobglhjoiaaOpenEnt
import Derived.Test.YtikodobglhjoiaaEntRange
namespace Go.Proofs.Ytikodobglhjoiaa
open Go.RowKit Go.ChangeShapes Go.WideShapes
set_option linter.unusedVariables false

/-- An act: its kind, its entry, a version. -/
abbrev Act3 := Nat × Ent × Int
def okA (a : Act3) : Prop := a.1 < 256 ∧ okE a.2.1 ∧ (-9223372036854775808 ≤ a.2.2 ∧ a.2.2 ≤ 9223372036854775807)
def actL (a : Act3) : List Value := .int .u8 a.1 :: (entL a.2.1 ++ [.int .i64 a.2.2])
theorem length_actL (a : Act3) : (actL a).length = 5 := rfl
theorem cells_act : Try.prog.cellsOf 53 = 5 := by kernel_rfl
theorem cells_u8a : Try.prog.cellsOf 5 = 1 := by kernel_rfl
theorem list5 {α : Type} (l : List α) (h : l.length = 5) : ∃ a b c d e, l = [a, b, c, d, e] := by
  match l, h with
  | [a, b, c, d, e], _ => exact ⟨a, b, c, d, e, rfl⟩
theorem trod_act {H : Type} {enc : TypeId × Value → H} {W : World} {base : Nat} {spare : Nat → Bool} {held : Bool} (n : Nat) (cs : List Value) (y : DataW H × List MemPlace) (hl : cs.length = 5) (h : DataW.trod enc Try.prog W base spare held n 53 cs = some y) :
    ∃ a : Act3, okA a ∧ cs = actL a := by
  obtain ⟨c0, c1, c2, c3, c4, rfl⟩ := list5 cs hl
  obtain ⟨y0, y1, y2, m, -, -, h0, h1, h2⟩ := Deep.trod_struct3 Try.underlying53 h
  simp only [cells_u8a, cells_ent, cells_inte] at h0 h1 h2
  obtain ⟨x0, e0, -, w0⟩ := DataW.trod_int Try.underlying5 h0
  obtain ⟨e, he, hce⟩ := trod_entry m _ _ rfl h1
  obtain ⟨x2, e2, -, w2⟩ := DataW.trod_int Try.underlying3 h2
  simp at e0 e2 hce
  subst e0 e2
  have b0 := bounds_u8 w0
  refine ⟨(x0.toNat, e, x2), ⟨by simp only []; omega, he, bounds_i64 w2⟩, ?_⟩
  have : (x0.toNat : Int) = x0 := by omega
  unfold actL
  simp only []
  rw [← hce, this]; rfl
def ActIs (v : Value) (a : Act3) : Prop := v = .agg (actL a).toArray ∧ okA a
theorem open_annalistlaw16Act {H : Type} {enc : TypeId × Value → H} {W : World} {base : Nat} {v : Value} {d : DataW H} {p : List MemPlace} (hval : Value.okWide Try.prog W .any base 53 v) (h : DataW.Trod enc Try.prog W 0 (fun _ => true) true 53 v d p) :
    ∃ a, ActIs v a := by
  obtain ⟨cs, rfl, hsz, _⟩ : ∃ cs, v = .agg cs ∧ cs.size = Try.prog.cellsOf 53 ∧ Row.okWide Try.prog W .any base 53 cs := by
    simpa [Value.okWide, Try.underlying53] using hval
  rw [cells_act] at hsz
  obtain ⟨fuel, hf⟩ := h
  obtain ⟨a, ha, hc⟩ := trod_act fuel _ _ (by simpa [Value.cells] using hsz) hf
  refine ⟨a, ?_, ha⟩
  have : cs.toList = actL a := by simpa [Value.cells] using hc
  obtain ⟨l⟩ := cs
  simp only [] at this
  rw [this]
theorem open_SliceOfannalistlaw16Act {H : Type} {enc : TypeId × Value → H} {W : World} {base : Nat} {v : Value} {d : DataW H} {p : List MemPlace} (hval : Value.okWide Try.prog W .any base 47 v) (h : DataW.Trod enc Try.prog W 0 (fun _ => true) true 47 v d p) :
    ∃ l : List Act3, Reads W v 5 l.length (l.flatMap actL) ∧ ∀ a ∈ l, okA a :=
  open_list Try.underlying47 5 (by omega) cells_act actL (fun _ => rfl) okA (fun n cs y hl h => trod_act n cs y hl h) hval h
end Go.Proofs.Ytikodobglhjoiaa
