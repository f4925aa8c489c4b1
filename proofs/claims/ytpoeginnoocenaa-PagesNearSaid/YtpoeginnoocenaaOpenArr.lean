/-
  An array that came in, opened, whatever its length is, its elements of one cell.
-/
import Derived.Test.YtpoeginnoocenaaOpenList
namespace Go.Proofs.Ytpoeginnoocenaa
open Go.RowKit Go.ChangeShapes Go.WideShapes
set_option linter.unusedVariables false

theorem open_arr {α H : Type} {enc : TypeId × Value → H} {P : Program} {W : World} {base n : Nat} {t e : TypeId} {v : Value} {d : DataW H} {p : List MemPlace} (ht : P.underlying t = some (.array n e)) (hc : P.cellsOf e = 1) (hct : P.cellsOf t = n) (f : α → Value) (ok : α → Prop)
    (hx : ∀ m c y, DataW.trod enc P W 0 (fun _ => true) true m e [c] = some y → ∃ x, ok x ∧ c = f x)
    (hval : Value.okWide P W .any base t v) (h : DataW.Trod enc P W 0 (fun _ => true) true t v d p) : ∃ l : List α, v = .agg (l.map f).toArray ∧ l.length = n ∧ ∀ x ∈ l, ok x := by
  obtain ⟨cs, rfl, hsz, _⟩ : ∃ cs, v = .agg cs ∧ cs.size = P.cellsOf t ∧ Row.okWide P W .any base t cs := by
    simpa [Value.okWide, ht] using hval
  rw [hct] at hsz
  obtain ⟨cs⟩ := cs
  have hsz' : cs.length = n := by simpa using hsz
  obtain ⟨fuel, hf⟩ := h
  obtain ⟨ys, m, _, _, hl, hlen, hall⟩ := DataW.trod_array ht hf
  have each : ∀ i : Fin n, ∃ x, ok x ∧ cs[i.1]'(by omega) = f x := by
    intro i
    have hi := hall i.1 (by omega)
    simp only [Value.cells, hc, Nat.mul_one] at hi
    have e1 : List.take 1 (List.drop i.1 cs) = [cs[i.1]'(by omega)] := by
      rw [List.drop_eq_getElem_cons (by omega)]; rfl
    rw [e1, List.getElem?_eq_getElem (by omega)] at hi
    exact hx _ _ _ hi
  refine ⟨List.ofFn fun i => Classical.choose (each i), ?_, List.length_ofFn, ?_⟩
  · congr 1
    congr 1
    apply List.ext_getElem
    · simp [hsz']
    · intro i h1 h2
      have := (Classical.choose_spec (each ⟨i, by omega⟩)).2
      simp only [List.getElem_map, List.getElem_ofFn]
      exact this
  · intro x hx'
    obtain ⟨i, rfl⟩ := List.mem_ofFn.1 hx'
    exact (Classical.choose_spec (each i)).1
end Go.Proofs.Ytpoeginnoocenaa
