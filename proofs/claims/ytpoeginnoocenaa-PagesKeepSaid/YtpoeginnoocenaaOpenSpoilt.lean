/-
  What comes into the pages' laws, opened: how a file is spoilt.
-/
import Derived.Test.YtpoeginnoocenaaOpenList
import Derived.Test.YtpoeginnoocenaaSpoilt
import Derived.Lib.SmallJoins
namespace Go.Proofs.Ytpoeginnoocenaa
open Go.RowKit Go.ChangeShapes Go.WideShapes
set_option linter.unusedVariables false

theorem cells_spoilt : Try.prog.cellsOf 50 = 4 := by kernel_rfl
theorem cells_u16s : Try.prog.cellsOf 48 = 1 := by kernel_rfl
theorem cells_u8s : Try.prog.cellsOf 5 = 1 := by kernel_rfl
theorem cells_strs : Try.prog.cellsOf 9 = 1 := by kernel_rfl
theorem cells_su16 : Try.prog.cellsOf 47 = 1 := by kernel_rfl
theorem cells_su8 : Try.prog.cellsOf 34 = 1 := by kernel_rfl
theorem types_spoilt : Try.prog.cellTypes Try.prog.depth 50 = some [47, 34, 48, 9] := by kernel_rfl
theorem list4s {α : Type} (l : List α) (h : l.length = 4) : ∃ a b c d, l = [a, b, c, d] := by
  match l, h with
  | [a, b, c, d], _ => exact ⟨a, b, c, d, rfl⟩
theorem list1s {α : Type} (l : List α) (h : l.length = 1) : ∃ a, l = [a] := by
  match l, h with
  | [a], _ => exact ⟨a, rfl⟩
theorem open_SliceOfuint16 {H : Type} {enc : TypeId × Value → H} {W : World} {base : Nat} {v : Value} {d : DataW H} {p : List MemPlace} (hval : Value.okWide Try.prog W .any base 47 v) (h : DataW.Trod enc Try.prog W 0 (fun _ => true) true 47 v d p) :
    ∃ l : List Nat, Reads W v 1 l.length (u16C l) ∧ ∀ x ∈ l, x < 65536 := by
  obtain ⟨l, h1, h2⟩ := open_list Try.underlying47 1 (by omega) cells_u16s (fun (x : Nat) => [.int .u16 (x : Int)]) (fun _ => rfl) (fun x => x < 65536) (fun n cs y hl h => by
    obtain ⟨x, e0, -, w0⟩ := DataW.trod_int Try.underlying48 h
    subst e0
    have b := bounds_u16 w0
    exact ⟨x.toNat, by omega, by rw [show ((x.toNat : Nat) : Int) = x by omega]⟩) hval h
  refine ⟨l, ?_, h2⟩
  have e : l.flatMap (fun (x : Nat) => [Value.int .u16 (x : Int)]) = u16C l := by
    clear h1 h2; unfold u16C; induction l with
    | nil => rfl
    | cons a l ih => rw [List.flatMap_cons, ih]; rfl
  rw [← e]; exact h1
theorem open_SliceOfuint8 {H : Type} {enc : TypeId × Value → H} {W : World} {base : Nat} {v : Value} {d : DataW H} {p : List MemPlace} (hval : Value.okWide Try.prog W .any base 34 v) (h : DataW.Trod enc Try.prog W 0 (fun _ => true) true 34 v d p) :
    ∃ l : List UInt8, Reads W v 1 l.length (cellsB l) := by
  obtain ⟨l, h1, h2⟩ := open_list Try.underlying34 1 (by omega) cells_u8s (fun (x : UInt8) => [.int .u8 (x.toNat : Int)]) (fun _ => rfl) (fun x => True) (fun n cs y hl h => by
    obtain ⟨x, e0, -, w0⟩ := DataW.trod_int Try.underlying5 h
    subst e0
    have b := bounds_u8 w0
    exact ⟨UInt8.ofNat x.toNat, trivial, by
      have : (UInt8.ofNat x.toNat).toNat = x.toNat := by simp; omega
      rw [this, show ((x.toNat : Nat) : Int) = x by omega]⟩) hval h
  refine ⟨l, ?_⟩
  have e : l.flatMap (fun (x : UInt8) => [Value.int .u8 (x.toNat : Int)]) = cellsB l := by
    clear h1 h2; unfold cellsB; induction l with
    | nil => rfl
    | cons a l ih => rw [List.flatMap_cons, ih]; rfl
  rw [← e]; exact h1
def SpoiltIs (W : World) (v : Value) (a : List Nat × List UInt8 × Nat × ByteArray) : Prop := SpoiltV W v a.1 a.2.1 a.2.2.1 a.2.2.2
theorem open_annalistlaw15Spoilt {H : Type} {enc : TypeId × Value → H} {W : World} {base : Nat} {v : Value} {d : DataW H} {p : List MemPlace} (hval : Value.okWide Try.prog W .any base 50 v) (h : DataW.Trod enc Try.prog W 0 (fun _ => true) true 50 v d p) :
    ∃ a, SpoiltIs W v a := by
  obtain ⟨cs, rfl, hsz, hrow⟩ : ∃ cs, v = .agg cs ∧ cs.size = Try.prog.cellsOf 50 ∧ Row.okWide Try.prog W .any base 50 cs := by
    simpa [Value.okWide, Try.underlying50] using hval
  rw [cells_spoilt] at hsz
  obtain ⟨fuel, hf⟩ := h
  obtain ⟨l⟩ := cs
  obtain ⟨c0, c1, c2, c3, rfl⟩ := list4s l (by simpa using hsz)
  obtain ⟨ts, ht, -, hr⟩ := hrow
  rw [types_spoilt, Option.some.injEq] at ht
  subst ht
  have hv0 : Value.okWide Try.prog W .any base 47 c0 := by
    obtain ⟨u, hu, hc⟩ := hr 0 c0 (by simp)
    simp at hu
    subst hu
    simpa [Value.okWide, Try.underlying47] using hc
  have hv1 : Value.okWide Try.prog W .any base 34 c1 := by
    obtain ⟨u, hu, hc⟩ := hr 1 c1 (by simp)
    simp at hu
    subst hu
    simpa [Value.okWide, Try.underlying34] using hc
  simp only [Value.cells] at hf
  obtain ⟨y0, y1, y2, y3, m, -, -, h0, h1, h2, h3⟩ := Joins.trod_struct4 Try.underlying50 hf
  simp only [cells_su16, cells_su8, cells_u16s, cells_strs] at h0 h1 h2 h3
  obtain ⟨x2, e2, -, w2⟩ := DataW.trod_int Try.underlying48 h2
  obtain ⟨s3, e3, -, w3⟩ := DataW.trod_string Try.underlying9 h3
  simp at e2 e3
  subst e2 e3
  have b2 := bounds_u16 w2
  obtain ⟨A0, n0, k0, rfl⟩ := okWide_slice Try.underlying47 hv0
  obtain ⟨A1, n1, k1, rfl⟩ := okWide_slice Try.underlying34 hv1
  obtain ⟨a, ha, ha2⟩ := open_SliceOfuint16 hv0 ⟨m, by simpa [Value.cells] using h0⟩
  obtain ⟨b, hb⟩ := open_SliceOfuint8 hv1 ⟨m, by simpa [Value.cells] using h1⟩
  refine ⟨(a, b, x2.toNat, s3), .slice A0 n0 k0, .slice A1 n1 k1, ?_, ha, hb, ha2, by simp only []; omega, w3⟩
  simp only []
  rw [show ((x2.toNat : Nat) : Int) = x2 by omega]
end Go.Proofs.Ytpoeginnoocenaa
