/-
  THE PLAIN LAW OF MERGES: first ones are taken away, each once. No program in sight.
-/
import Derived.Test.YtigjjggkcagkmaaEntLaw
namespace Go.Proofs.Ytigjjggkcagkmaa
set_option linter.unusedVariables false

/-- The lesser one of a first one and another one. -/
def headM (o : Option Ent) (l : List Ent) : Option Ent :=
  match l.head?, o with
  | none, o => o
  | some e, none => some e
  | some e, some b => if lessE e b then some e else some b
def leastM (ls : List (List Ent)) : Option Ent := ls.foldl headM none
def offM (e : Ent) (l : List Ent) : List Ent := l.dropWhile fun x => decide (x = e)
def outM (out : List Ent) (e : Ent) : List Ent := if out.getLast? = some e then out else out ++ [e]
def totalM (ls : List (List Ent)) : Nat := (ls.map List.length).sum
def goM : Nat → List (List Ent) → List Ent → List Ent
  | 0, _, out => out
  | n + 1, ls, out => match leastM ls with
    | none => out
    | some e => goM n (ls.map (offM e)) (outM out e)
def mergeTo (ls : List (List Ent)) (out : List Ent) : List Ent := goM (totalM ls) ls out
def mergeL (ls : List (List Ent)) : List Ent := mergeTo ls []

theorem offM_le (e : Ent) (l : List Ent) : (offM e l).length ≤ l.length := (List.dropWhile_suffix _).length_le
theorem totalM_map (e : Ent) (ls : List (List Ent)) : totalM (ls.map (offM e)) ≤ totalM ls := by
  induction ls with
  | nil => exact Nat.le_refl _
  | cons l ls ih =>
    have := offM_le e l
    unfold totalM at ih ⊢
    simp only [List.map_cons, List.sum_cons] at ih ⊢
    omega
theorem offM_head {e : Ent} {l : List Ent} (h : l.head? = some e) : (offM e l).length < l.length := by
  cases l with
  | nil => cases h
  | cons x l =>
    simp at h
    subst h
    have := offM_le x l
    unfold offM at this ⊢
    rw [List.dropWhile_cons_of_pos (by simp)]
    simp; omega
theorem totalM_less {e : Ent} {ls : List (List Ent)} {l : List Ent} (hl : l ∈ ls) (h : l.head? = some e) : totalM (ls.map (offM e)) < totalM ls := by
  induction ls with
  | nil => cases hl
  | cons x ls ih =>
    have h1 := offM_le e x
    have h2 := totalM_map e ls
    unfold totalM at ih h2 ⊢
    simp only [List.map_cons, List.sum_cons] at ih h2 ⊢
    rcases List.mem_cons.1 hl with rfl | hl
    · have := offM_head h; omega
    · have := ih hl; omega
theorem foldl_headM (ls : List (List Ent)) : ∀ o e, ls.foldl headM o = some e → o = some e ∨ ∃ l ∈ ls, l.head? = some e := by
  induction ls with
  | nil => intro o e h; exact .inl h
  | cons l ls ih =>
    intro o e h
    rw [List.foldl_cons] at h
    rcases ih _ _ h with h1 | ⟨x, hx, h1⟩
    · unfold headM at h1
      split at h1
      · exact .inl h1
      · rename_i a hl; exact .inr ⟨l, by simp, by rw [hl, h1]⟩
      · rename_i a b hl
        split at h1
        · exact .inr ⟨l, by simp, by rw [hl, h1]⟩
        · exact .inl h1
    · exact .inr ⟨x, by simp [hx], h1⟩
theorem leastM_mem {ls : List (List Ent)} {e : Ent} (h : leastM ls = some e) : ∃ l ∈ ls, l.head? = some e := by
  rcases foldl_headM ls none e h with h | h
  · cases h
  · exact h
theorem foldl_none (ls : List (List Ent)) : ∀ o, ls.foldl headM o = none → o = none ∧ ∀ l ∈ ls, l = [] := by
  induction ls with
  | nil => intro o h; exact ⟨h, by simp⟩
  | cons l ls ih =>
    intro o h
    rw [List.foldl_cons] at h
    obtain ⟨h1, h2⟩ := ih _ h
    unfold headM at h1
    split at h1
    · rename_i hl
      exact ⟨h1, fun x hx => by rcases List.mem_cons.1 hx with rfl | hx; exact List.head?_eq_none_iff.1 hl; exact h2 x hx⟩
    · cases h1
    · split at h1 <;> cases h1
theorem leastM_none {ls : List (List Ent)} (h : leastM ls = none) : ∀ l ∈ ls, l = [] := (foldl_none ls none h).2
/-- It is least. -/
theorem foldl_least (ls : List (List Ent)) : ∀ o e, ls.foldl headM o = some e → (∀ b, o = some b → lessE b e = false) ∧ ∀ l ∈ ls, ∀ x, l.head? = some x → lessE x e = false := by
  induction ls with
  | nil => intro o e h; exact ⟨fun b hb => by simp only [List.foldl_nil] at h; rw [h] at hb; cases hb; exact lessE_irr, by simp⟩
  | cons l ls ih =>
    intro o e h
    rw [List.foldl_cons] at h
    obtain ⟨h1, h2⟩ := ih _ _ h
    have key : (∀ b, o = some b → lessE b e = false) ∧ ∀ x, l.head? = some x → lessE x e = false := by
      unfold headM at h1
      split at h1
      · rename_i hl; exact ⟨fun b hb => h1 b hb, fun x hx => by rw [hl] at hx; cases hx⟩
      · rename_i a hl
        exact ⟨fun b hb => (by cases hb), fun x hx => by rw [hl] at hx; cases hx; exact h1 _ rfl⟩
      · rename_i a b hl
        split at h1
        · rename_i hab
          have ha := h1 _ rfl
          refine ⟨fun c hc => ?_, fun x hx => by rw [hl] at hx; cases hx; exact ha⟩
          cases hc
          rw [← Bool.not_eq_true]
          intro hbe
          rw [lessE_trans hab hbe] at ha; cases ha
        · rename_i hab
          have hb := h1 _ rfl
          refine ⟨fun c hc => by cases hc; exact hb, fun x hx => ?_⟩
          rw [hl] at hx; cases hx
          rw [← Bool.not_eq_true]
          intro hae
          rw [Bool.not_eq_true] at hab
          rcases hc : lessE b a with _ | _
          · have := lessE_tri hab hc
            subst this
            rw [hae] at hb; cases hb
          · have := lessE_trans hc hae
            rw [this] at hb; cases hb
    exact ⟨key.1, fun x hx => (List.mem_cons.1 hx).elim (fun e => by rw [e]; exact key.2) (fun hx => h2 x hx)⟩
theorem leastM_least {ls : List (List Ent)} {e : Ent} (h : leastM ls = some e) : ∀ l ∈ ls, ∀ x, l.head? = some x → lessE x e = false := (foldl_least ls none e h).2
theorem goM_more : ∀ (n m : Nat) (ls : List (List Ent)) (out : List Ent), totalM ls ≤ n → totalM ls ≤ m → goM n ls out = goM m ls out := by
  intro n
  induction n with
  | zero =>
    intro m ls out h1 h2
    cases m with
    | zero => rfl
    | succ m =>
      rw [goM, goM]
      rcases h : leastM ls with _ | e
      · rfl
      · obtain ⟨l, hl, hh⟩ := leastM_mem h
        have := totalM_less hl hh
        omega
  | succ n ih =>
    intro m ls out h1 h2
    rw [goM]
    rcases h : leastM ls with _ | e
    · cases m with
      | zero => rfl
      | succ m => rw [goM, h]
    · obtain ⟨l, hl, hh⟩ := leastM_mem h
      have := totalM_less hl hh
      cases m with
      | zero => omega
      | succ m =>
        rw [goM, h]
        exact ih m _ _ (by omega) (by omega)
theorem mergeTo_none {ls : List (List Ent)} {out : List Ent} (h : leastM ls = none) : mergeTo ls out = out := by
  unfold mergeTo
  cases totalM ls with
  | zero => rfl
  | succ n => rw [goM, h]
theorem mergeTo_step {ls : List (List Ent)} {out : List Ent} {e : Ent} (h : leastM ls = some e) : mergeTo ls out = mergeTo (ls.map (offM e)) (outM out e) ∧ totalM (ls.map (offM e)) < totalM ls := by
  obtain ⟨l, hl, hh⟩ := leastM_mem h
  have ht := totalM_less hl hh
  refine ⟨?_, ht⟩
  unfold mergeTo
  obtain ⟨n, hn⟩ : ∃ n, totalM ls = n + 1 := ⟨totalM ls - 1, by omega⟩
  rw [hn, goM, h]
  exact goM_more _ _ _ _ (by omega) (Nat.le_refl _)

/-! of lists that are sorted -/
theorem sorted_cons {e : Ent} {l : List Ent} : sortedE (e :: l) = true ↔ (∀ x ∈ l, lessE e x = true) ∧ sortedE l = true := by
  unfold sortedE
  rw [decide_eq_true_iff, List.pairwise_cons, decide_eq_true_iff]
theorem offM_sorted {e : Ent} {l : List Ent} (hs : sortedE l = true) (hle : ∀ x, l.head? = some x → lessE x e = false) :
    sortedE (offM e l) = true ∧ (∀ x ∈ offM e l, lessE e x = true) ∧ (∀ x, x ∈ l → x = e ∨ x ∈ offM e l) ∧ (∀ x, x ∈ offM e l → x ∈ l) := by
  cases l with
  | nil => exact ⟨rfl, by simp [offM], by simp, by simp [offM]⟩
  | cons a l =>
    obtain ⟨h1, h2⟩ := sorted_cons.1 hs
    have ha := hle a rfl
    by_cases hae : a = e
    · subst hae
      have hne : ∀ x ∈ l, x ≠ a := fun x hx hxa => by
        subst hxa
        have := h1 _ hx
        rw [lessE_irr] at this; cases this
      have hl : offM a (a :: l) = l := by
        unfold offM
        rw [List.dropWhile_cons_of_pos (by simp)]
        cases l with
        | nil => rfl
        | cons b l => rw [List.dropWhile_cons_of_neg (by simpa using hne b (by simp))]
      rw [hl]
      exact ⟨h2, h1, fun x hx => by rcases List.mem_cons.1 hx with h | h; exact .inl h; exact .inr h, fun x hx => List.mem_cons_of_mem _ hx⟩
    · have hl : offM e (a :: l) = a :: l := by
        unfold offM
        rw [List.dropWhile_cons_of_neg (by simpa using hae)]
      have hea : lessE e a = true := by
        rcases h : lessE e a with _ | _
        · exact absurd (lessE_tri ha h) hae
        · rfl
      rw [hl]
      exact ⟨hs, fun x hx => by rcases List.mem_cons.1 hx with rfl | h; exact hea; exact lessE_trans hea (h1 x h), fun x hx => .inr hx, fun x hx => hx⟩
theorem sorted_snoc {l : List Ent} {e : Ent} (hs : sortedE l = true) (h : ∀ x ∈ l, lessE x e = true) : sortedE (l ++ [e]) = true := by
  unfold sortedE at hs ⊢
  rw [decide_eq_true_iff] at hs ⊢
  rw [List.pairwise_append]
  exact ⟨hs, by simp, fun a ha b hb => by rw [List.mem_singleton.1 hb]; exact h a ha⟩
theorem mergeTo_sorted : ∀ (n : Nat) (ls : List (List Ent)) (out : List Ent), totalM ls ≤ n → (∀ l ∈ ls, sortedE l = true) → sortedE out = true → (∀ x ∈ out, ∀ l ∈ ls, ∀ y ∈ l, lessE x y = true) →
    sortedE (mergeTo ls out) = true ∧ ∀ x, x ∈ mergeTo ls out ↔ x ∈ out ∨ ∃ l ∈ ls, x ∈ l := by
  intro n
  induction n with
  | zero =>
    intro ls out ht hs ho hlt
    have hn : leastM ls = none := by
      rcases h : leastM ls with _ | e
      · rfl
      · obtain ⟨l, hl, hh⟩ := leastM_mem h
        have := totalM_less hl hh; omega
    rw [mergeTo_none hn]
    exact ⟨ho, fun x => ⟨.inl, fun h => by
      rcases h with h | ⟨l, hl, hx⟩
      · exact h
      · rw [leastM_none hn l hl] at hx; cases hx⟩⟩
  | succ n ih =>
    intro ls out ht hs ho hlt
    rcases h : leastM ls with _ | e
    · rw [mergeTo_none h]
      exact ⟨ho, fun x => ⟨.inl, fun hx => by
        rcases hx with hx | ⟨l, hl, hx⟩
        · exact hx
        · rw [leastM_none h l hl] at hx; cases hx⟩⟩
    · obtain ⟨h1, h2⟩ := mergeTo_step (out := out) h
      obtain ⟨l0, hl0, hh0⟩ := leastM_mem h
      have he0 : e ∈ l0 := List.mem_of_head? hh0
      have hout : outM out e = out ++ [e] := by
        unfold outM
        rw [if_neg]
        intro hg
        have := hlt e (List.mem_of_getLast? hg) l0 hl0 e he0
        rw [lessE_irr] at this; cases this
      have hoff := fun l hl => offM_sorted (hs l hl) (leastM_least h l hl)
      rw [h1, hout]
      have hI := ih (ls.map (offM e)) (out ++ [e]) (by omega) ?_ ?_ ?_
      · refine ⟨hI.1, fun x => ?_⟩
        rw [hI.2 x]
        constructor
        · rintro (hx | ⟨l, hl, hx⟩)
          · rcases List.mem_append.1 hx with hx | hx
            · exact .inl hx
            · rw [List.mem_singleton.1 hx]; exact .inr ⟨l0, hl0, he0⟩
          · obtain ⟨l', hl', rfl⟩ := List.mem_map.1 hl
            exact .inr ⟨l', hl', (hoff l' hl').2.2.2 x hx⟩
        · rintro (hx | ⟨l, hl, hx⟩)
          · exact .inl (List.mem_append_left _ hx)
          · rcases (hoff l hl).2.2.1 x hx with rfl | hx
            · exact .inl (by simp)
            · exact .inr ⟨_, List.mem_map.2 ⟨l, hl, rfl⟩, hx⟩
      · intro l hl
        obtain ⟨l', hl', rfl⟩ := List.mem_map.1 hl
        exact (hoff l' hl').1
      · exact sorted_snoc ho fun x hx => hlt x hx l0 hl0 e he0
      · intro x hx l hl y hy
        obtain ⟨l', hl', rfl⟩ := List.mem_map.1 hl
        rcases List.mem_append.1 hx with hx | hx
        · exact hlt x hx l' hl' y ((hoff l' hl').2.2.2 y hy)
        · rw [List.mem_singleton.1 hx]; exact (hoff l' hl').2.1 y hy
theorem mergeL_sorted {ls : List (List Ent)} (hs : ∀ l ∈ ls, sortedE l = true) : sortedE (mergeL ls) = true ∧ ∀ x, x ∈ mergeL ls ↔ ∃ l ∈ ls, x ∈ l := by
  obtain ⟨h1, h2⟩ := mergeTo_sorted _ ls [] (Nat.le_refl _) hs rfl (by simp)
  exact ⟨h1, fun x => by unfold mergeL; rw [h2 x]; simp⟩
/-- Two rows of lists that have the same entries. -/
theorem mergeL_ext {a b : List (List Ent)} (ha : ∀ l ∈ a, sortedE l = true) (hb : ∀ l ∈ b, sortedE l = true) (h : ∀ x, (∃ l ∈ a, x ∈ l) ↔ ∃ l ∈ b, x ∈ l) : mergeL a = mergeL b := by
  obtain ⟨a1, a2⟩ := mergeL_sorted ha
  obtain ⟨b1, b2⟩ := mergeL_sorted hb
  exact sorted_ext a1 b1 fun x => by rw [a2, b2, h]
end Go.Proofs.Ytigjjggkcagkmaa
