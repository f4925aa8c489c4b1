/-
  A list of lists of entries that came in, opened.
-/
import Derived.Test.YtigjjggkcagkmaaOpenEnt
import Derived.Test.YtigjjggkcagkmaaMergeAt
namespace Go.Proofs.Ytigjjggkcagkmaa
open Go.RowKit Go.ChangeShapes Go.WideShapes
set_option linter.unusedVariables false

theorem trod_list {α H : Type} {enc : TypeId × Value → H} {P : Program} {W : World} {t e : TypeId} {cs : List Value} {fuel : Nat} {d : DataW H × List MemPlace} (ht : P.underlying t = some (.slice e)) (size : Nat) (hsz : 0 < size) (hc : P.cellsOf e = size)
    (f : α → List Value) (hlen : ∀ x, (f x).length = size) (ok : α → Prop)
    (hx : ∀ n cs y, cs.length = size → DataW.trod enc P W 0 (fun _ => true) true n e cs = some y → ∃ x, ok x ∧ cs = f x)
    (h : DataW.trod enc P W 0 (fun _ => true) true fuel t cs = some d) : ∃ (v : Value) (l : List α), cs = [v] ∧ Reads W v size l.length (l.flatMap f) ∧ ∀ x ∈ l, ok x := by
  rcases Deep.open_slice ht h with ⟨rfl, -⟩ | ⟨a, len, cap, m, n, D, Pl, rfl, _, hl, hm, hmm, -, hall⟩
  · exact ⟨_, [], rfl, Reads.nil _ _, by simp⟩
  · simp only [if_true] at hmm
    subst hmm
    have each : ∀ i, i < len → ∃ x, ok x ∧ ∀ j, (hj : j < size) → W.cell? ((a.add (i * size)).add j) = (f x)[j]? := by
      intro i hi
      obtain ⟨cs', h1, h2⟩ := hall i (by omega)
      rw [hc] at h1
      obtain ⟨_, hcl, hcell⟩ := World.cells?_some h1
      obtain ⟨x, hox, rfl⟩ := hx n cs' _ hcl h2
      refine ⟨x, hox, fun j hj => ?_⟩
      rw [hcell j (by omega)]
    have each' : ∀ i : Fin len, ∃ x, ok x ∧ ∀ j, (hj : j < size) → W.cell? ((a.add (i.1 * size)).add j) = (f x)[j]? := fun i => each i.1 i.2
    refine ⟨_, List.ofFn fun i => Classical.choose (each' i), rfl, ?_, ?_⟩
    · have hl2 : (List.ofFn fun i => Classical.choose (each' i)).length = len := List.length_ofFn
      rw [hl2]
      refine ⟨some a, _, rfl, hl, hm, by rw [flatMap_len f size hlen, hl2], fun h0 => ?_⟩
      obtain ⟨b, o, spot⟩ := a
      have c0 := (Classical.choose_spec (each' ⟨0, h0⟩)).2 0 hsz
      have hspot : spot = none := by
        rw [List.getElem?_eq_getElem (by rw [hlen]; exact hsz)] at c0
        simpa [Addr.add] using World.cell?_spot c0
      subst hspot
      refine ⟨b, o, rfl, ?_, fun j hj => ?_⟩
      · rcases Nat.lt_or_ge b W.heap.size with h | h
        · exact h
        · rw [List.getElem?_eq_getElem (by rw [hlen]; exact hsz)] at c0
          unfold World.cell? at c0
          simp [Addr.add, Array.getElem?_eq_none h] at c0
      · have hj' : j < len * size := by rw [flatMap_len f size hlen, hl2] at hj; exact hj
        have hq : j / size < len := Nat.div_lt_of_lt_mul (by rw [Nat.mul_comm]; exact hj')
        have hr : j % size < size := Nat.mod_lt _ hsz
        have hd : j / size * size + j % size = j := by rw [Nat.mul_comm]; exact Nat.div_add_mod j size
        have c1 := (Classical.choose_spec (each' ⟨j / size, hq⟩)).2 (j % size) hr
        have g := flatMap_get f size hlen (List.ofFn fun i => Classical.choose (each' i)) (j / size) (j % size) (by rw [hl2]; exact hq) hr
        rw [hd, List.getElem?_eq_getElem hj, List.getElem_ofFn] at g
        rw [g, ← c1, Addr.add_lit, Addr.add_lit]
        congr 2
        simp only []
        omega
    · intro x hx'
      obtain ⟨i, rfl⟩ := List.mem_ofFn.1 hx'
      exact (Classical.choose_spec (each' i)).1
theorem cells_ents : Try.prog.cellsOf 36 = 1 := by kernel_rfl
theorem flatMap_one {α : Type} (f : α → Value) (l : List α) : (l.flatMap fun x => [f x]) = l.map f := by
  induction l with
  | nil => rfl
  | cons a l ih => rw [List.flatMap_cons, ih]; rfl
theorem open_SliceOfSliceOfapiEntry {H : Type} {enc : TypeId × Value → H} {W : World} {base : Nat} {v : Value} {d : DataW H} {p : List MemPlace} (hval : Value.okWide Try.prog W .any base 34 v) (h : DataW.Trod enc Try.prog W 0 (fun _ => true) true 34 v d p) :
    ∃ ls, Lists W v ls := by
  obtain ⟨l, hr, hok⟩ := open_list (α := Value × List Ent) Try.underlying34 1 (by omega) cells_ents (fun x => [x.1]) (fun _ => rfl) (fun x => Ents W x.1 x.2) (fun n cs y hl h => by
    obtain ⟨v, l, rfl, h1, h2⟩ := trod_list Try.underlying36 3 (by omega) cells_ent entL (fun _ => rfl) okE (fun n cs y hl h => trod_entry n cs y hl h) h
    exact ⟨(v, l), ⟨h1, h2⟩, rfl⟩) hval h
  rw [flatMap_one] at hr
  refine ⟨l.map (·.2), l.map (·.1), by simp, by simpa using hr, fun k x y hx hy => ?_⟩
  rw [List.getElem?_map] at hx hy
  rcases hk : l[k]? with _ | z
  · rw [hk] at hx; cases hx
  · rw [hk] at hx hy
    cases hx; cases hy
    exact hok z (List.mem_of_getElem? hk)
end Go.Proofs.Ytigjjggkcagkmaa
