/-
  What comes into the blooms' laws, opened: a slice of hashes, two numbers.
-/
import Derived.Test.YtpoeginnoocenaaBloomed
import Derived.Test.YtpoeginnoocenaaOpenPair
import Derived.ChangeSlices
import Derived.OpenShut
namespace Go.Proofs.Ytpoeginnoocenaa
open Go.RowKit Go.ChangeShapes Go.WideShapes
set_option linter.unusedVariables false

theorem Reads.of_cells {w : World} {a : Addr} {len cap : Nat} {xs : List Value} (hl : len ≤ cap) (hm : cap ≤ maxLen) (hn : xs.length = len) (hc : ∀ i (h : i < xs.length), w.cell? (a.add i) = some xs[i]) : Reads w (.slice (some a) len cap) 1 len xs := by
  refine ⟨_, _, rfl, hl, hm, by omega, fun h0 => ?_⟩
  obtain ⟨b, o, spot⟩ := a
  have hspot : spot = none := by simpa [Addr.add] using World.cell?_spot (hc 0 (by omega))
  subst hspot
  refine ⟨b, o, rfl, ?_, fun j hj => ?_⟩
  · have := hc 0 (by omega)
    unfold World.cell? at this
    rcases Nat.lt_or_ge b w.heap.size with h | h
    · exact h
    · simp [Addr.add, Array.getElem?_eq_none h] at this
  · have := hc j hj
    rw [Addr.add_lit] at this
    exact this
theorem cells_u64 : Try.prog.cellsOf 22 = 1 := by kernel_rfl
theorem cells_int : Try.prog.cellsOf 3 = 1 := by kernel_rfl
theorem cells_2int : Try.prog.cellsOf 23 = 2 := by kernel_rfl
theorem open_SliceOfuint64 {H : Type} {enc : TypeId × Value → H} {W : World} {base : Nat} {v : Value} {d : DataW H} {p : List MemPlace} (hval : Value.okWide Try.prog W .any base 28 v) (h : DataW.Trod enc Try.prog W 0 (fun _ => true) true 28 v d p) :
    ∃ l : List Nat, U64s W v l := by
  obtain ⟨a0, len, cap, rfl⟩ := okWide_slice Try.underlying28 hval
  obtain ⟨fuel, hf⟩ := h
  rcases open_ints Try.underlying28 Try.underlying22 cells_u64 hf with ⟨hcs, hx⟩ | ⟨a, len', cap', zs, hcs, _, hl, hm, hz, hx, hcell, hwf⟩
  · simp [Value.cells] at hcs
    obtain ⟨rfl, rfl, rfl⟩ := hcs
    exact ⟨[], Reads.nil _ _, by simp⟩
  · simp [Value.cells] at hcs
    obtain ⟨rfl, rfl, rfl⟩ := hcs
    simp only [if_true] at hz
    have hb : ∀ z ∈ zs, 0 ≤ z ∧ z ≤ 18446744073709551615 := fun z hz => bounds_u64 (hwf z hz)
    have hlen : ((zs.take len).map Int.toNat).length = len := by simp; omega
    refine ⟨(zs.take len).map Int.toNat, ?_, ?_⟩
    · rw [hlen]
      refine Reads.of_cells hl hm (by simp [u64C]; omega) (fun i hi => ?_)
      simp [u64C] at hi
      have := hcell i (by omega)
      rw [this]
      have hi2 : i < zs.length := by omega
      have h0 := hb zs[i] (List.getElem_mem hi2)
      simp [u64C, List.getD, List.getElem?_eq_getElem hi2]
      omega
    · intro n hn
      obtain ⟨z, hz, rfl⟩ := List.mem_map.1 hn
      have := hb z (List.mem_of_mem_take hz)
      omega
def Pair64 (v : Value) (a : Int × Int) : Prop := v = .agg #[.int .i64 a.1, .int .i64 a.2] ∧ (-9223372036854775808 ≤ a.1 ∧ a.1 ≤ 9223372036854775807) ∧ (-9223372036854775808 ≤ a.2 ∧ a.2 ≤ 9223372036854775807)
theorem open_2int {H : Type} {enc : TypeId × Value → H} {W : World} {base : Nat} {v : Value} {d : DataW H} {p : List MemPlace} (hval : Value.okWide Try.prog W .any base 23 v) (h : DataW.Trod enc Try.prog W 0 (fun _ => true) true 23 v d p) :
    ∃ a, Pair64 v a := by
  obtain ⟨cs, rfl, hsz, _⟩ : ∃ cs, v = .agg cs ∧ cs.size = Try.prog.cellsOf 23 ∧ Row.okWide Try.prog W .any base 23 cs := by
    simpa [Value.okWide, Try.underlying23] using hval
  rw [cells_2int] at hsz
  obtain ⟨l⟩ := cs
  obtain ⟨c0, c1, rfl⟩ := list2 l hsz
  obtain ⟨fuel, hf⟩ := h
  obtain ⟨y0, y1, m, hy0, hy1⟩ := trod_array2 Try.underlying23 cells_int hf
  obtain ⟨x0, e0, -, w0⟩ := DataW.trod_int Try.underlying3 hy0
  obtain ⟨x1, e1, -, w1⟩ := DataW.trod_int Try.underlying3 hy1
  simp at e0 e1
  subst e0 e1
  exact ⟨(x0, x1), rfl, bounds_i64 w0, bounds_i64 w1⟩

/-- A block that was just laid, later. -/
theorem lit_cells (w : World) (C : Array Value) (t : TypeId) (j : Nat) (v : Value) (h : C[j]? = some v) (w' : World) (hb : Below (w.alloc (.cells C t)).heap.size (w.alloc (.cells C t)) w') : w'.cell? ⟨w.heap.size, j, none⟩ = some v := by
  have hblk : (w.alloc (.cells C t)).heap[w.heap.size]? = some (.cells C t (0, 0)) := heap_alloc_new w _
  refine (hb.cell (p := ⟨w.heap.size, j, none⟩) (Array.getElem?_eq_some_iff.1 hblk).1).trans ?_
  unfold World.cell?
  rw [hblk]
  simpa using h
end Go.Proofs.Ytpoeginnoocenaa
