/-
  LISTS OF LISTS THAT A CALL MAKES: a row of slices of its own, to which one is appended at a time; and what 'rising' and 'great' say, plainly.
-/
import Derived.Test.YtigjjggkcagkmaaMergeRef
import Derived.Maps.AppendAt
namespace Go.Proofs.Ytigjjggkcagkmaa
open Go.RowKit
set_option linter.unusedVariables false

/-- The value v is a row of the call's own, above base, of slices that read as ls; their blocks are not its own. -/
def Own2 (w : World) (base : Nat) (v : Value) (ls : List (List Ent)) (vs : List Value) : Prop :=
  vs.length = ls.length ∧ w.ownsRow base 36 1 v ls.length vs ∧ ∀ (k : Nat) (x : Value) (l : List Ent), vs[k]? = some x → ls[k]? = some l → Ents w x l ∧ (0 < l.length → ∀ b, x.ownBlock = some b → v.ownBlock ≠ some b)
theorem Own2.lists {w : World} {base : Nat} {v : Value} {ls : List (List Ent)} {vs : List Value} (h : Own2 w base v ls vs) : Lists w v ls :=
  ⟨vs, h.1, by rw [h.1]; exact Reads.of_own h.2.1, fun k x l hx hl => (h.2.2 k x l hx hl).1⟩
theorem Own2.next {w w' : World} {base : Nat} {v : Value} {ls : List (List Ent)} {vs : List Value} (h : Own2 w base v ls vs) (hb : Below w.heap.size w w') : Own2 w' base v ls vs :=
  ⟨h.1, own_next h.2.1 hb, fun k x l hx hl => ⟨(h.2.2 k x l hx hl).1.next hb, (h.2.2 k x l hx hl).2⟩⟩
theorem Own2.nil (w : World) (base : Nat) : Own2 w base (.slice none 0 0) [] [] := ⟨rfl, World.ownsRow_nil _ _ _ _, fun k x l hx => by simp at hx⟩
theorem Ents.grown {w w' : World} {x : Value} {l : List Ent} {row : Option Nat} (h : Ents w x l) (hg : w.grownBy w' row) (hr : 0 < l.length → ∀ b, x.ownBlock = some b → row ≠ some b) : Ents w' x l := by
  obtain ⟨⟨A, c, rfl, h1, h2, h3, h4⟩, h5⟩ := h
  refine ⟨⟨A, c, rfl, h1, h2, h3, fun h0 => ?_⟩, h5⟩
  obtain ⟨b, off, rfl, hlt, hc⟩ := h4 h0
  refine ⟨b, off, rfl, Nat.lt_of_lt_of_le hlt hg.size, fun j hj => ?_⟩
  have hbk := hg.block b hlt (fun h => hr h0 b (by simp [Value.ownBlock]) h.symm)
  have := hc j hj
  unfold World.cell? at this ⊢
  rw [hbk]; exact this
theorem Own2.grow {w w' : World} {base : Nat} {v v' x : Value} {ls : List (List Ent)} {l : List Ent} {vs : List Value} (h : Own2 w base v ls vs) (hx : Ents w x l) (hxb : 0 < l.length → ∀ b, x.ownBlock = some b → v.ownBlock ≠ some b)
    (hown : w'.ownsRow base 36 1 v' (ls.length + 1) (vs ++ [x])) (hg : w.grownBy w' v.ownBlock) (hat : v'.ownBlock = v.ownBlock ∨ v'.ownBlock = some w.heap.size) : Own2 w' base v' (ls ++ [l]) (vs ++ [x]) := by
  refine ⟨by rw [List.length_append, List.length_append, h.1]; rfl, by rw [List.length_append]; exact hown, fun k y m hy hm => ?_⟩
  have key : Ents w y m ∧ (0 < m.length → ∀ b, y.ownBlock = some b → v.ownBlock ≠ some b) := by
    rcases Nat.lt_or_ge k ls.length with hk | hk
    · rw [List.getElem?_append_left (by rw [h.1]; exact hk)] at hy
      rw [List.getElem?_append_left hk] at hm
      exact h.2.2 k y m hy hm
    · have hk2 := (List.getElem?_eq_some_iff.1 hm).1
      simp only [List.length_append, List.length_singleton] at hk2
      obtain rfl : k = ls.length := by omega
      rw [List.getElem?_append_right (Nat.le_refl _), Nat.sub_self] at hm
      rw [List.getElem?_append_right (by rw [h.1]; exact Nat.le_refl _), h.1, Nat.sub_self] at hy
      simp at hy hm
      subst hy; subst hm
      exact ⟨hx, hxb⟩
  refine ⟨key.1.grown hg key.2, fun h0 b hb => ?_⟩
  rcases hat with hat | hat
  · rw [hat]; exact key.2 h0 b hb
  · rw [hat]
    intro he
    cases he
    obtain ⟨⟨A, c, rfl, -, -, -, h4⟩, -⟩ := key.1
    obtain ⟨b', off, rfl, hlt, -⟩ := h4 h0
    simp [Value.ownBlock] at hb
    omega
theorem slice_one (l : List Value) (hl : ∀ u ∈ l, ∃ A n c, u = .slice A n c) : ∀ u ∈ l, u.oneCell' = true := by
  intro u hu
  obtain ⟨A, n, c, rfl⟩ := hl u hu
  rfl

def greatM (ls : List (List Ent)) : Bool := decide (12 < ls.length) || ls.any fun l => decide (60 < l.length)
theorem greatM_no {ls : List (List Ent)} (h : greatM ls = false) : ls.length ≤ 12 ∧ (∀ l ∈ ls, l.length ≤ 60) ∧ totalM ls ≤ 720 := by
  unfold greatM at h
  rw [Bool.or_eq_false_iff, decide_eq_false_iff_not, List.any_eq_false] at h
  have h2 : ∀ l ∈ ls, l.length ≤ 60 := fun l hl => by have := h.2 l hl; simp at this; omega
  refine ⟨by omega, h2, ?_⟩
  have : ∀ m : List (List Ent), (∀ l ∈ m, l.length ≤ 60) → totalM m ≤ 60 * m.length := by
    intro m
    induction m with
    | nil => intro _; exact Nat.le_refl _
    | cons l m ih =>
      intro hm
      have i1 := ih fun x hx => hm x (List.mem_cons_of_mem _ hx)
      have i2 := hm l (by simp)
      unfold totalM at i1 ⊢
      simp only [List.map_cons, List.sum_cons, List.length_cons]
      omega
  have := this ls h2
  omega
theorem goM_len : ∀ (n : Nat) (ls : List (List Ent)) (out : List Ent), (goM n ls out).length ≤ out.length + totalM ls := by
  intro n
  induction n with
  | zero => intro ls out; unfold goM; omega
  | succ n ih =>
    intro ls out
    unfold goM
    rcases h : leastM ls with _ | e
    · simp only []; omega
    · obtain ⟨l, hl, hh⟩ := leastM_mem h
      have ht := totalM_less hl hh
      have := ih (ls.map (offM e)) (outM out e)
      have ho : (outM out e).length ≤ out.length + 1 := by unfold outM; split <;> simp
      simp only []
      omega
theorem mergeL_len (ls : List (List Ent)) : (mergeL ls).length ≤ totalM ls := by have := goM_len (totalM ls) ls []; simpa [mergeL, mergeTo] using this
def stepR (acc : List Ent) (e : Ent) : List Ent := match acc.getLast? with
  | none => acc ++ [e]
  | some b => if lessE b e then acc ++ [e] else acc
def rise (l : List Ent) : List Ent := l.foldl stepR []
theorem rise_succ {l : List Ent} {k : Nat} {e : Ent} (h : l[k]? = some e) : rise (l.take (k + 1)) = stepR (rise (l.take k)) e := by
  unfold rise
  rw [List.take_add_one, h, List.foldl_append]; rfl
theorem sortedE_snoc {l : List Ent} {e : Ent} (hs : sortedE l = true) (h : ∀ b, l.getLast? = some b → lessE b e = true) : sortedE (l ++ [e]) = true := by
  refine sorted_snoc hs fun x hx => ?_
  rcases hl : l.getLast? with _ | b
  · rw [List.getLast?_eq_none_iff.1 hl] at hx; cases hx
  · have hbe := h b hl
    obtain ⟨m, rfl⟩ : ∃ m, l = m ++ [b] := by
      have hne : l ≠ [] := fun h => by rw [h] at hl; cases hl
      rw [List.getLast?_eq_some_getLast hne, Option.some.injEq] at hl
      exact ⟨l.dropLast, by rw [← hl, List.dropLast_concat_getLast hne]⟩
    rcases List.mem_append.1 hx with hx | hx
    · unfold sortedE at hs
      rw [decide_eq_true_iff, List.pairwise_append] at hs
      exact lessE_trans (hs.2.2 x hx b (by simp)) hbe
    · rw [List.mem_singleton.1 hx]; exact hbe
theorem stepR_sorted {acc : List Ent} {e : Ent} (hs : sortedE acc = true) : sortedE (stepR acc e) = true := by
  unfold stepR
  split
  · rename_i h; exact sortedE_snoc hs fun b hb => by rw [h] at hb; cases hb
  · rename_i b h
    split
    · rename_i hl; exact sortedE_snoc hs fun c hc => by rw [h] at hc; cases hc; exact hl
    · exact hs
theorem stepR_mem {acc : List Ent} {e x : Ent} (h : x ∈ stepR acc e) : x ∈ acc ∨ x = e := by
  unfold stepR at h
  split at h
  · simpa using h
  · split at h
    · simpa using h
    · exact .inl h
theorem stepR_len (acc : List Ent) (e : Ent) : (stepR acc e).length ≤ acc.length + 1 := by
  unfold stepR
  split
  · simp
  · split <;> simp
theorem foldl_stepR (l : List Ent) : ∀ acc, sortedE acc = true → sortedE (l.foldl stepR acc) = true ∧ (∀ x ∈ l.foldl stepR acc, x ∈ acc ∨ x ∈ l) ∧ (l.foldl stepR acc).length ≤ acc.length + l.length := by
  induction l with
  | nil => intro acc h; exact ⟨h, fun x hx => .inl hx, Nat.le_refl _⟩
  | cons e l ih =>
    intro acc h
    obtain ⟨i1, i2, i3⟩ := ih _ (stepR_sorted (e := e) h)
    refine ⟨i1, fun x hx => ?_, ?_⟩
    · rcases i2 x hx with h | h
      · rcases stepR_mem h with h | h
        · exact .inl h
        · rw [h]; exact .inr (by simp)
      · exact .inr (List.mem_cons_of_mem _ h)
    · have := stepR_len acc e
      simp only [List.foldl_cons, List.length_cons] at i3 ⊢
      omega
theorem rise_sorted (l : List Ent) : sortedE (rise l) = true := (foldl_stepR l [] rfl).1
theorem rise_mem {l : List Ent} {x : Ent} (h : x ∈ rise l) : x ∈ l := by
  rcases (foldl_stepR l [] rfl).2.1 x h with h | h
  · cases h
  · exact h
theorem rise_len (l : List Ent) : (rise l).length ≤ l.length := by have := (foldl_stepR l [] rfl).2.2; simpa [rise] using this
theorem total_rise (ls : List (List Ent)) : totalM (ls.map rise) ≤ totalM ls := by
  induction ls with
  | nil => exact Nat.le_refl _
  | cons l ls ih =>
    have := rise_len l
    unfold totalM at ih ⊢
    simp only [List.map_cons, List.sum_cons]
    omega
end Go.Proofs.Ytigjjggkcagkmaa
