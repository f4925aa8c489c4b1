/-
  A slice of strings that came in, opened.
-/
import Derived.Test.YtjcdkekmploelaaRow
import Derived.SliceStrings
import Derived.ChangeShapes
import Derived.WideShapes
import Derived.ShutString
namespace Go.Proofs.Ytjcdkekmploelaa
open Go.RowKit Go.ChangeShapes Go.WideShapes
set_option linter.unusedVariables false

theorem cells_string : Try.prog.cellsOf 9 = 1 := by kernel_rfl
theorem Reads.of_cells {w : World} {a : Addr} {len cap : Nat} {xs : List Value} (hl : len ≤ cap) (hm : cap ≤ maxLen) (hn : xs.length = len) (hc : ∀ i (h : i < xs.length), w.cell? (a.add i) = some xs[i]) : Reads w (.slice (some a) len cap) 1 len xs := by
  refine ⟨_, _, rfl, hl, hm, by omega, fun h0 => ?_⟩
  obtain ⟨b, o, spot⟩ := a
  have hspot : spot = none := by simpa [Addr.add] using World.cell?_spot (hc 0 (by omega))
  subst hspot
  refine ⟨b, o, rfl, ?_, fun j hj => ?_⟩
  · have := hc 0 (by omega)
    unfold World.cell? at this
    rcases Nat.lt_or_ge b w.heap.size with h | h
    · exact h
    · simp [Addr.add, Array.getElem?_eq_none h] at this
  · have := hc j hj
    rw [Addr.add_lit] at this
    exact this
theorem open_SliceOfstring {H : Type} {enc : TypeId × Value → H} {W : World} {base : Nat} {v : Value} {d : DataW H} {p : List MemPlace} (hval : Value.okWide Try.prog W .any base 28 v) (h : DataW.Trod enc Try.prog W 0 (fun _ => true) true 28 v d p) :
    ∃ ss : List ByteArray, Strs W v ss := by
  obtain ⟨a0, len, cap, rfl⟩ := okWide_slice Try.underlying28 hval
  obtain ⟨fuel, hf⟩ := h
  rcases open_strings Try.underlying28 Try.underlying9 cells_string hf with ⟨hcs, hx⟩ | ⟨a, len', cap', ss, hcs, _, hl, hm, hz, hx, hcell, hsz⟩
  · simp [Value.cells] at hcs
    obtain ⟨rfl, rfl, rfl⟩ := hcs
    exact ⟨[], Reads.nil _ _, by simp⟩
  · simp [Value.cells] at hcs
    obtain ⟨rfl, rfl, rfl⟩ := hcs
    simp only [if_true] at hz
    have hlen : (ss.take len).length = len := by simp; omega
    refine ⟨ss.take len, ?_, fun s hs => hsz s (List.mem_of_mem_take hs)⟩
    rw [hlen]
    refine Reads.of_cells hl hm (by simp [hlen]) (fun i hi => ?_)
    simp [strsC] at hi
    have := hcell i (by omega)
    rw [this]
    simp [strsC, List.getD, List.getElem?_eq_getElem (show i < ss.length by omega)]
end Go.Proofs.Ytjcdkekmploelaa
