/-
  LISTS BY THEIR HEADS: a row of slices of the call's own, each of which reads as a list of entries of an older world.
-/
import Derived.Test.YtigjjggkcagkmaaMerge
namespace Go.Proofs.Ytigjjggkcagkmaa
open Go.RowKit
set_option linter.unusedVariables false

/-- Block g holds n slices; they read, in w, as the lists lf. -/
def Heads (w wr : World) (g n : Nat) (lf : List (List Ent)) : Prop := lf.length = n ∧ ∃ hs : List Value, hs.length = n ∧ Row wr g 36 hs ∧ ∀ (k : Nat) (x : Value) (l : List Ent), hs[k]? = some x → lf[k]? = some l → Ents w x l
theorem Heads.next {w wr w' : World} {g n : Nat} {lf : List (List Ent)} (h : Heads w wr g n lf) (hb : Below wr.heap.size wr w') : Heads w w' g n lf := by
  obtain ⟨h0, hs, h1, h2, h3⟩ := h
  exact ⟨h0, hs, h1, h2.next hb, h3⟩
theorem Heads.far {w wr : World} {g n : Nat} {lf : List (List Ent)} (h : Heads w wr g n lf) {p : Addr} (hp : g ≠ p.block) (u : Value) : Heads w (wr.setCell p u) g n lf := by
  obtain ⟨h0, hs, h1, h2, h3⟩ := h
  exact ⟨h0, hs, h1, h2.far hp u, h3⟩
theorem Heads.grown {w wr w' : World} {g n : Nat} {lf : List (List Ent)} {row : Option Nat} (h : Heads w wr g n lf) (hb : wr.grownBy w' row) (hg : some g ≠ row) : Heads w w' g n lf := by
  obtain ⟨h0, hs, h1, h2, h3⟩ := h
  exact ⟨h0, hs, h1, h2.grown hb hg, h3⟩
/-- Its k-th one. -/
theorem Heads.at {w wr : World} {g n : Nat} {lf : List (List Ent)} (h : Heads w wr g n lf) {k : Nat} {l : List Ent} (hl : lf[k]? = some l) :
    ∃ A c, Ents w (.slice A l.length c) l ∧ l.length ≤ c ∧ c ≤ maxLen ∧ (∀ e ∈ l, okE e) ∧ ∀ w' : World, Below wr.heap.size wr w' → w'.cell? ⟨g, k, none⟩ = some (.slice A l.length c) ∧ w'.frozen? ⟨g, k, none⟩ = false := by
  obtain ⟨h0, hs, h1, h2, h3⟩ := h
  have hk := (List.getElem?_eq_some_iff.1 hl).1
  have hk2 : k < hs.length := by omega
  have hE := h3 k hs[k] l (List.getElem?_eq_getElem hk2) hl
  obtain ⟨⟨A, c, hv, -, -, -, -⟩, hok⟩ := id hE
  rw [hv] at hE
  obtain ⟨-, q1, q2, -⟩ := hE.cells
  refine ⟨A, c, hE, q1, q2, hok, fun w' hb => ?_⟩
  have hr := h2.next hb
  exact ⟨by rw [hr.cell k hk2, hv], hr.frozen k hk2⟩
theorem Heads.ok {w wr : World} {g n : Nat} {lf : List (List Ent)} (h : Heads w wr g n lf) : ∀ l ∈ lf, ∀ e ∈ l, okE e := by
  intro l hl e he
  obtain ⟨k, hk, rfl⟩ := List.getElem_of_mem hl
  obtain ⟨A, c, -, -, -, h1, -⟩ := h.at (List.getElem?_eq_getElem hk)
  exact h1 e he
theorem Heads.set {w wr : World} {g n : Nat} {lf : List (List Ent)} (h : Heads w wr g n lf) (k : Nat) {l' : List Ent} {v : Value} (hE : Ents w v l') : Heads w (wr.setCell ⟨g, k, none⟩ v) g n (lf.set k l') := by
  obtain ⟨h0, hs, h1, h2, h3⟩ := h
  refine ⟨by rw [List.length_set, h0], hs.set k v, by rw [List.length_set, h1], h2.set k v, fun j x l hx hl => ?_⟩
  rw [List.getElem?_set] at hx hl
  by_cases hj : k = j
  · rw [if_pos hj] at hx hl
    split at hx
    · split at hl
      · cases hx; cases hl; exact hE
      · cases hl
    · cases hx
  · rw [if_neg hj] at hx hl
    exact h3 j x l hx hl
/-- How many entries the slices at block g have. -/
def lensOf (w : World) (g n : Nat) : Nat := ((List.range n).map fun k => match w.cell? ⟨g, k, none⟩ with
  | some (.slice _ m _) => m
  | _ => 0).sum
def lenAt (w : World) (g k : Nat) : Nat := match w.cell? ⟨g, k, none⟩ with
  | some (.slice _ m _) => m
  | _ => 0
theorem Heads.lenAt {w wr : World} {g n : Nat} {lf : List (List Ent)} (h : Heads w wr g n lf) {k : Nat} {l : List Ent} (hl : lf[k]? = some l) : lenAt wr g k = l.length := by
  obtain ⟨A, c, -, -, -, -, h1⟩ := h.at hl
  unfold Go.Proofs.Ytigjjggkcagkmaa.lenAt
  rw [(h1 wr (Below.refl _ _)).1]
theorem Heads.lens {w wr : World} {g n : Nat} {lf : List (List Ent)} (h : Heads w wr g n lf) : lensOf wr g n = totalM lf := by
  have h0 := h.1
  unfold lensOf totalM
  congr 1
  apply List.ext_getElem (by simp [h0])
  intro k h1 h2
  have hk : k < lf.length := by simpa using h2
  have := h.lenAt (List.getElem?_eq_getElem hk)
  unfold Go.Proofs.Ytigjjggkcagkmaa.lenAt at this
  simp [this]
/-- A list without its first one. -/
theorem Ents.tail {w : World} {b off c : Nat} {e : Ent} {l : List Ent} (h : Ents w (.slice (some ⟨b, off, none⟩) (l.length + 1) c) (e :: l)) (hc : 0 < l.length → 1 < c) (A : Option Addr) (hA : 0 < l.length → A = some ⟨b, off + 3, none⟩) : Ents w (.slice A l.length (c - 1)) l := by
  obtain ⟨⟨A0, c0, hv, h1, h2, h3, h4⟩, h5⟩ := h
  simp only [Value.slice.injEq] at hv
  obtain ⟨rfl, -, rfl⟩ := hv
  refine ⟨⟨A, c - 1, rfl, ?_, ?_, ?_, fun h0 => ?_⟩, fun x hx => h5 x (List.mem_cons_of_mem _ hx)⟩
  · simp only [List.length_cons] at h1; omega
  · omega
  · rw [length_entsC]
  · obtain ⟨b', off', hb, hlt, hcell⟩ := h4 (by simp)
    cases hb
    refine ⟨b, off + 3, hA h0, hlt, fun j hj => ?_⟩
    have := hcell (j + 3) (by rw [length_entsC] at hj ⊢; simp only [List.length_cons]; omega)
    rw [show off + 3 + j = off + (j + 3) by omega, this]
    simp [entsC, entL]
theorem offM_cons (e : Ent) (l : List Ent) : offM e (e :: l) = offM e l := by
  unfold offM; rw [List.dropWhile_cons_of_pos (by simp)]
theorem offM_other {x e : Ent} (h : x ≠ e) (l : List Ent) : offM e (x :: l) = x :: l := by
  unfold offM; rw [List.dropWhile_cons_of_neg (by simpa using h)]
def midL (e : Ent) (lf : List (List Ent)) (k : Nat) : List (List Ent) := (lf.map (offM e)).take k ++ lf.drop k
theorem midL_len (e : Ent) (lf : List (List Ent)) (k : Nat) (hk : k ≤ lf.length) : (midL e lf k).length = lf.length := by
  unfold midL; rw [List.length_append, List.length_take, List.length_map, List.length_drop]; omega
theorem midL_get {e : Ent} {lf : List (List Ent)} {k : Nat} {l : List Ent} (h : lf[k]? = some l) : (midL e lf k)[k]? = some l := by
  have hk := (List.getElem?_eq_some_iff.1 h).1
  unfold midL
  rw [List.getElem?_append_right (by rw [List.length_take]; omega), List.length_take, List.length_map, Nat.min_eq_left (by omega), List.getElem?_drop]
  simpa using h
theorem midL_set {e : Ent} {lf : List (List Ent)} {k : Nat} {l : List Ent} (h : lf[k]? = some l) : (midL e lf k).set k (offM e l) = midL e lf (k + 1) := by
  have hk := (List.getElem?_eq_some_iff.1 h).1
  have ht : ((lf.map (offM e)).take k).length = k := by rw [List.length_take, List.length_map]; omega
  unfold midL
  rw [List.set_append_right _ _ (by omega), ht, Nat.sub_self, List.take_add_one, List.getElem?_map, h, List.drop_eq_getElem_cons hk, List.set_cons_zero, List.append_assoc]
  rfl
theorem midL_zero (e : Ent) (lf : List (List Ent)) : midL e lf 0 = lf := by unfold midL; simp
theorem midL_all (e : Ent) (lf : List (List Ent)) : midL e lf lf.length = lf.map (offM e) := by
  unfold midL
  rw [List.take_of_length_le (by simp), List.drop_of_length_le (Nat.le_refl _), List.append_nil]
def oL (lf : List (List Ent)) (k : Nat) : Option Ent := (lf.take k).foldl headM none
theorem oL_succ {lf : List (List Ent)} {k : Nat} {l : List Ent} (h : lf[k]? = some l) : oL lf (k + 1) = headM (oL lf k) l := by
  unfold oL
  rw [List.take_add_one, h, List.foldl_append]; rfl
theorem oL_all (lf : List (List Ent)) : oL lf lf.length = leastM lf := by
  unfold oL leastM
  rw [List.take_of_length_le (Nat.le_refl _)]
theorem oL_mem {lf : List (List Ent)} {k : Nat} {e : Ent} (h : oL lf k = some e) : ∃ l ∈ lf, e ∈ l := by
  rcases foldl_headM _ none e h with h | ⟨l, hl, hh⟩
  · cases h
  · exact ⟨l, List.mem_of_mem_take hl, List.mem_of_mem_head? (by rw [hh]; rfl)⟩
end Go.Proofs.Ytigjjggkcagkmaa
