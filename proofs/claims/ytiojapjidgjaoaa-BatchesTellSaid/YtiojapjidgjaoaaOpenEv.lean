/-
  What comes into the events' laws, opened: an event by its bits, a list of them.
-/
import Derived.Test.YtiojapjidgjaoaaOpenList
import Derived.Test.YtiojapjidgjaoaaEv
namespace Go.Proofs.Ytiojapjidgjaoaa
open Go.RowKit Go.ChangeShapes Go.WideShapes
set_option linter.unusedVariables false

def rawL (e : Ev) : List Value := [.string e.1, .string e.2.1, .int .u64 (e.2.2 : Nat)]
theorem cells_raw : Try.prog.cellsOf 24 = 3 := by kernel_rfl
theorem cells_strv : Try.prog.cellsOf 9 = 1 := by kernel_rfl
theorem cells_u64v : Try.prog.cellsOf 22 = 1 := by kernel_rfl
theorem list3v {α : Type} (l : List α) (h : l.length = 3) : ∃ a b c, l = [a, b, c] := by
  match l, h with
  | [a, b, c], _ => exact ⟨a, b, c, rfl⟩
theorem trod_raw {H : Type} {enc : TypeId × Value → H} {W : World} {base : Nat} {spare : Nat → Bool} {held : Bool} (n : Nat) (cs : List Value) (y : DataW H × List MemPlace) (hl : cs.length = 3) (h : DataW.trod enc Try.prog W base spare held n 24 cs = some y) :
    ∃ e : Ev, okV e ∧ cs = rawL e := by
  obtain ⟨c0, c1, c2, rfl⟩ := list3v cs hl
  obtain ⟨y0, y1, y2, m, -, -, h0, h1, h2⟩ := Deep.trod_struct3 Try.underlying24 h
  simp only [cells_u64v, cells_strv] at h0 h1 h2
  obtain ⟨s0, e0, -, w0⟩ := DataW.trod_string Try.underlying9 h0
  obtain ⟨s1, e1, -, w1⟩ := DataW.trod_string Try.underlying9 h1
  obtain ⟨x2, e2, -, w2⟩ := DataW.trod_int Try.underlying22 h2
  simp at e0 e1 e2
  subst e0 e1 e2
  have b2 := bounds_u64 w2
  refine ⟨(s0, s1, x2.toNat), ⟨w0, w1, by simp only []; omega⟩, ?_⟩
  have : (x2.toNat : Int) = x2 := by omega
  simp [rawL, this]
def RawIs (v : Value) (e : Ev) : Prop := v = .agg (rawC e) ∧ okV e
theorem open_annalistlaw07Raw {H : Type} {enc : TypeId × Value → H} {W : World} {base : Nat} {v : Value} {d : DataW H} {p : List MemPlace} (hval : Value.okWide Try.prog W .any base 24 v) (h : DataW.Trod enc Try.prog W 0 (fun _ => true) true 24 v d p) :
    ∃ e, RawIs v e := by
  obtain ⟨cs, rfl, hsz, _⟩ : ∃ cs, v = .agg cs ∧ cs.size = Try.prog.cellsOf 24 ∧ Row.okWide Try.prog W .any base 24 cs := by
    simpa [Value.okWide, Try.underlying24] using hval
  rw [cells_raw] at hsz
  obtain ⟨fuel, hf⟩ := h
  obtain ⟨e, he, hc⟩ := trod_raw fuel _ _ (by simpa [Value.cells] using hsz) hf
  refine ⟨e, ?_, he⟩
  have : cs.toList = rawL e := by simpa [Value.cells] using hc
  obtain ⟨l⟩ := cs
  simp only [] at this
  rw [this]; rfl
theorem open_SliceOfannalistlaw07Raw {H : Type} {enc : TypeId × Value → H} {W : World} {base : Nat} {v : Value} {d : DataW H} {p : List MemPlace} (hval : Value.okWide Try.prog W .any base 36 v) (h : DataW.Trod enc Try.prog W 0 (fun _ => true) true 36 v d p) :
    ∃ l : List Ev, Reads W v 3 l.length (l.flatMap rawL) ∧ ∀ e ∈ l, okV e :=
  open_list Try.underlying36 3 (by omega) cells_raw rawL (fun _ => rfl) okV (fun n cs y hl h => trod_raw n cs y hl h) hval h
end Go.Proofs.Ytiojapjidgjaoaa
