/-
  A batch by its events' bits that came in, opened.
-/
import Derived.Test.YtiojapjidgjaoaaOpenEv
import Derived.Test.YtiojapjidgjaoaaBat2
namespace Go.Proofs.Ytiojapjidgjaoaa
open Go.RowKit Go.ChangeShapes Go.WideShapes
set_option linter.unusedVariables false

theorem cells_rawB : Try.prog.cellsOf 47 = 3 := by kernel_rfl
theorem cells_i64v : Try.prog.cellsOf 3 = 1 := by kernel_rfl
theorem cells_sl : Try.prog.cellsOf 36 = 1 := by kernel_rfl
theorem types_rawB : Try.prog.cellTypes Try.prog.depth 47 = some [9, 3, 36] := by kernel_rfl
theorem open_annalistlaw09Raw {H : Type} {enc : TypeId × Value → H} {W : World} {base : Nat} {v : Value} {d : DataW H} {p : List MemPlace} (hval : Value.okWide Try.prog W .any base 47 v) (h : DataW.Trod enc Try.prog W 0 (fun _ => true) true 47 v d p) :
    ∃ b, RawB W v b := by
  obtain ⟨cs, rfl, hsz, hrow⟩ : ∃ cs, v = .agg cs ∧ cs.size = Try.prog.cellsOf 47 ∧ Row.okWide Try.prog W .any base 47 cs := by
    simpa [Value.okWide, Try.underlying47] using hval
  rw [cells_rawB] at hsz
  obtain ⟨fuel, hf⟩ := h
  obtain ⟨l⟩ := cs
  obtain ⟨c0, c1, c2, rfl⟩ := list3v l (by simpa using hsz)
  obtain ⟨ts, ht, -, hr⟩ := hrow
  rw [types_rawB, Option.some.injEq] at ht
  subst ht
  have hv2 : Value.okWide Try.prog W .any base 36 c2 := by
    obtain ⟨u, hu, hc⟩ := hr 2 c2 (by simp)
    simp at hu
    subst hu
    simpa [Value.okWide, Try.underlying36] using hc
  simp only [Value.cells] at hf
  obtain ⟨y0, y1, y2, m, -, -, h0, h1, h2⟩ := Deep.trod_struct3 Try.underlying47 hf
  simp only [cells_i64v, cells_strv, cells_sl] at h0 h1 h2
  obtain ⟨s0, e0, -, w0⟩ := DataW.trod_string Try.underlying9 h0
  obtain ⟨x1, e1, -, w1⟩ := DataW.trod_int Try.underlying3 h1
  simp at e0 e1
  subst e0 e1
  have b1 := bounds_i64 w1
  obtain ⟨A, n, c, rfl⟩ := okWide_slice Try.underlying36 hv2
  obtain ⟨E, hE, hok⟩ := open_SliceOfannalistlaw07Raw hv2 ⟨m, by simpa [Value.cells] using h2⟩
  obtain ⟨A', c', he, -⟩ := id hE
  simp only [Value.slice.injEq] at he
  obtain ⟨rfl, rfl, rfl⟩ := he
  exact ⟨(s0, x1, E), A, c, rfl, ⟨hE, hok⟩, w0, by simp only []; omega, by simp only []; omega⟩
end Go.Proofs.Ytiojapjidgjaoaa
