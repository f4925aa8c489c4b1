/-
  A slice that came in, opened, whatever its elements are.
-/
import Derived.Test.YtmplabhofhllmaaMem
import Derived.ChangeShapes
import Derived.WideShapes
import Derived.ChangeSame
import Derived.OpenShut
import Derived.Deep.Slices
import Derived.Deep.Strs
namespace Go.Proofs.Ytmplabhofhllmaa
open Go.RowKit Go.ChangeShapes Go.WideShapes
set_option linter.unusedVariables false

theorem flatMap_get {α : Type} (f : α → List Value) (size : Nat) (hf : ∀ x, (f x).length = size) (l : List α) (i k : Nat) (hi : i < l.length) (hk : k < size) : (l.flatMap f)[i * size + k]? = (f l[i])[k]? := by
  induction l generalizing i with
  | nil => simp at hi
  | cons e l ih =>
    rw [List.flatMap_cons]
    cases i with
    | zero => rw [List.getElem?_append_left (by rw [hf]; omega)]; simp
    | succ i =>
      have e1 : (i + 1) * size = size + i * size := by rw [Nat.succ_mul]; omega
      rw [List.getElem?_append_right (by rw [hf, e1]; omega), hf, e1]
      have := ih i (by simpa using hi)
      simp only [List.getElem_cons_succ]
      rw [← this]
      congr 1
      omega
theorem flatMap_len {α : Type} (f : α → List Value) (size : Nat) (hf : ∀ x, (f x).length = size) (l : List α) : (l.flatMap f).length = l.length * size := by
  induction l with
  | nil => simp
  | cons e l ih => rw [List.flatMap_cons, List.length_append, hf, ih, List.length_cons, Nat.succ_mul]; omega
theorem open_list {α H : Type} {enc : TypeId × Value → H} {P : Program} {W : World} {base : Nat} {t e : TypeId} {v : Value} {d : DataW H} {p : List MemPlace} (ht : P.underlying t = some (.slice e)) (size : Nat) (hsz : 0 < size) (hc : P.cellsOf e = size)
    (f : α → List Value) (hlen : ∀ x, (f x).length = size) (ok : α → Prop)
    (hx : ∀ n cs y, cs.length = size → DataW.trod enc P W 0 (fun _ => true) true n e cs = some y → ∃ x, ok x ∧ cs = f x)
    (hval : Value.okWide P W .any base t v) (h : DataW.Trod enc P W 0 (fun _ => true) true t v d p) : ∃ l : List α, Reads W v size l.length (l.flatMap f) ∧ ∀ x ∈ l, ok x := by
  obtain ⟨a0, len, cap, rfl⟩ := okWide_slice ht hval
  obtain ⟨fuel, hf⟩ := h
  rcases Deep.open_slice ht hf with ⟨hcs, -⟩ | ⟨a, len', cap', m, n, D, Pl, hcs, _, hl, hm, hmm, -, hall⟩
  · simp [Value.cells] at hcs
    obtain ⟨rfl, rfl, rfl⟩ := hcs
    exact ⟨[], Reads.nil _ _, by simp⟩
  · simp [Value.cells] at hcs
    obtain ⟨rfl, rfl, rfl⟩ := hcs
    simp only [if_true] at hmm
    subst hmm
    have each : ∀ i, i < len → ∃ x, ok x ∧ ∀ j, (hj : j < size) → W.cell? ((a.add (i * size)).add j) = (f x)[j]? := by
      intro i hi
      obtain ⟨cs', h1, h2⟩ := hall i (by omega)
      rw [hc] at h1
      obtain ⟨_, hcl, hcell⟩ := World.cells?_some h1
      obtain ⟨x, hox, rfl⟩ := hx n cs' _ hcl h2
      refine ⟨x, hox, fun j hj => ?_⟩
      rw [hcell j (by omega)]
    have each' : ∀ i : Fin len, ∃ x, ok x ∧ ∀ j, (hj : j < size) → W.cell? ((a.add (i.1 * size)).add j) = (f x)[j]? := fun i => each i.1 i.2
    refine ⟨List.ofFn fun i => Classical.choose (each' i), ?_, ?_⟩
    · have hl2 : (List.ofFn fun i => Classical.choose (each' i)).length = len := List.length_ofFn
      rw [hl2]
      refine ⟨some a, _, rfl, hl, hm, by rw [flatMap_len f size hlen, hl2], fun h0 => ?_⟩
      obtain ⟨b, o, spot⟩ := a
      have c0 := (Classical.choose_spec (each' ⟨0, h0⟩)).2 0 hsz
      have hspot : spot = none := by
        rw [List.getElem?_eq_getElem (by rw [hlen]; exact hsz)] at c0
        simpa [Addr.add] using World.cell?_spot c0
      subst hspot
      refine ⟨b, o, rfl, ?_, fun j hj => ?_⟩
      · rcases Nat.lt_or_ge b W.heap.size with h | h
        · exact h
        · rw [List.getElem?_eq_getElem (by rw [hlen]; exact hsz)] at c0
          unfold World.cell? at c0
          simp [Addr.add, Array.getElem?_eq_none h] at c0
      · have hj' : j < len * size := by rw [flatMap_len f size hlen, hl2] at hj; exact hj
        have hq : j / size < len := Nat.div_lt_of_lt_mul (by rw [Nat.mul_comm]; exact hj')
        have hr : j % size < size := Nat.mod_lt _ hsz
        have hd : j / size * size + j % size = j := by rw [Nat.mul_comm]; exact Nat.div_add_mod j size
        have c1 := (Classical.choose_spec (each' ⟨j / size, hq⟩)).2 (j % size) hr
        have g := flatMap_get f size hlen (List.ofFn fun i => Classical.choose (each' i)) (j / size) (j % size) (by rw [hl2]; exact hq) hr
        rw [hd, List.getElem?_eq_getElem hj, List.getElem_ofFn] at g
        rw [g, ← c1, Addr.add_lit, Addr.add_lit]
        congr 2
        simp only []
        omega
    · intro x hx'
      obtain ⟨i, rfl⟩ := List.mem_ofFn.1 hx'
      exact (Classical.choose_spec (each' i)).1
end Go.Proofs.Ytmplabhofhllmaa
