/-
  What comes into the entries' laws, opened: an entry, a list of entries.
-/
import Derived.Test.YtikodobglhjoiaaOpenList
import Derived.Test.YtikodobglhjoiaaEnts
namespace Go.Proofs.Ytikodobglhjoiaa
open Go.RowKit Go.ChangeShapes Go.WideShapes
set_option linter.unusedVariables false

theorem cells_ent : Try.prog.cellsOf 25 = 3 := by kernel_rfl
theorem cells_u64e : Try.prog.cellsOf 23 = 1 := by kernel_rfl
theorem cells_inte : Try.prog.cellsOf 3 = 1 := by kernel_rfl
theorem list3 {α : Type} (l : List α) (h : l.length = 3) : ∃ a b c, l = [a, b, c] := by
  match l, h with
  | [a, b, c], _ => exact ⟨a, b, c, rfl⟩
theorem trod_entry {H : Type} {enc : TypeId × Value → H} {W : World} {base : Nat} {spare : Nat → Bool} {held : Bool} (n : Nat) (cs : List Value) (y : DataW H × List MemPlace) (hl : cs.length = 3) (h : DataW.trod enc Try.prog W base spare held n 25 cs = some y) :
    ∃ e : Ent, okE e ∧ cs = entL e := by
  obtain ⟨c0, c1, c2, rfl⟩ := list3 cs hl
  obtain ⟨y0, y1, y2, m, -, -, h0, h1, h2⟩ := Deep.trod_struct3 Try.underlying25 h
  simp only [cells_u64e, cells_inte] at h0 h1 h2
  obtain ⟨x0, e0, -, w0⟩ := DataW.trod_int Try.underlying23 h0
  obtain ⟨x1, e1, -, w1⟩ := DataW.trod_int Try.underlying3 h1
  obtain ⟨x2, e2, -, w2⟩ := DataW.trod_int Try.underlying3 h2
  simp at e0 e1 e2
  subst e0 e1 e2
  have b0 := bounds_u64 w0
  refine ⟨(x0.toNat, x1, x2), ⟨by simp only []; omega, bounds_i64 w1, bounds_i64 w2⟩, ?_⟩
  have : (x0.toNat : Int) = x0 := by omega
  simp [entL, this]
def EntIs (v : Value) (e : Ent) : Prop := v = .agg (entC e) ∧ okE e
theorem open_apiEntry {H : Type} {enc : TypeId × Value → H} {W : World} {base : Nat} {v : Value} {d : DataW H} {p : List MemPlace} (hval : Value.okWide Try.prog W .any base 25 v) (h : DataW.Trod enc Try.prog W 0 (fun _ => true) true 25 v d p) :
    ∃ e, EntIs v e := by
  obtain ⟨cs, rfl, hsz, _⟩ : ∃ cs, v = .agg cs ∧ cs.size = Try.prog.cellsOf 25 ∧ Row.okWide Try.prog W .any base 25 cs := by
    simpa [Value.okWide, Try.underlying25] using hval
  rw [cells_ent] at hsz
  obtain ⟨fuel, hf⟩ := h
  obtain ⟨e, he, hc⟩ := trod_entry fuel _ _ (by simpa [Value.cells] using hsz) hf
  refine ⟨e, ?_, he⟩
  have : cs.toList = entL e := by simpa [Value.cells] using hc
  obtain ⟨l⟩ := cs
  simp only [] at this
  rw [this]; rfl
theorem open_SliceOfapiEntry {H : Type} {enc : TypeId × Value → H} {W : World} {base : Nat} {v : Value} {d : DataW H} {p : List MemPlace} (hval : Value.okWide Try.prog W .any base 22 v) (h : DataW.Trod enc Try.prog W 0 (fun _ => true) true 22 v d p) :
    ∃ l, Ents W v l :=
  open_list Try.underlying22 3 (by omega) cells_ent entL (fun _ => rfl) okE (fun n cs y hl h => trod_entry n cs y hl h) hval h
end Go.Proofs.Ytikodobglhjoiaa
