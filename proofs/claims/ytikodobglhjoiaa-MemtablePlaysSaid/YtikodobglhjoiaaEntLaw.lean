/-
  THE PLAIN LAW OF LISTS OF ENTRIES: in order, searched, ranges, last ones, put in one by one.
-/
import Derived.Test.YtikodobglhjoiaaEntEq
namespace Go.Proofs.Ytikodobglhjoiaa
set_option linter.unusedVariables false

section
variable {a b c : Ent} {h : Nat} {v : Int}
theorem lessE_iff : lessE a b = true ↔ (a.1 < b.1 ∨ a.1 = b.1 ∧ (a.2.1 < b.2.1 ∨ a.2.1 = b.2.1 ∧ a.2.2 < b.2.2)) := by simp [lessE]
theorem aheadE_iff : aheadE a h v = true ↔ (a.1 < h ∨ a.1 = h ∧ a.2.1 < v) := by simp [aheadE]
theorem lessE_trans (h1 : lessE a b = true) (h2 : lessE b c = true) : lessE a c = true := by rw [lessE_iff] at *; omega
theorem lessE_irr : lessE a a = false := by rw [← Bool.not_eq_true, lessE_iff]; omega
theorem lessE_asymm (h1 : lessE a b = true) : lessE b a = false := by rw [← Bool.not_eq_true]; rw [lessE_iff] at *; omega
theorem lessE_tri (h1 : lessE a b = false) (h2 : lessE b a = false) : a = b := by
  rw [← Bool.not_eq_true] at h1 h2
  rw [lessE_iff] at *
  obtain ⟨a1, a2, a3⟩ := a
  obtain ⟨b1, b2, b3⟩ := b
  simp only [] at h1 h2
  have e1 : a1 = b1 := by omega
  have e2 : a2 = b2 := by omega
  have e3 : a3 = b3 := by omega
  rw [e1, e2, e3]
theorem aheadE_mono (h1 : lessE a b = true) (h2 : aheadE b h v = true) : aheadE a h v = true := by rw [lessE_iff] at h1; rw [aheadE_iff] at *; omega
end

/-- Entries rise, each once. -/
def sortedE (l : List Ent) : Bool := decide (l.Pairwise fun a b => lessE a b = true)
def searchE (l : List Ent) (h : Nat) (v : Int) : Nat := (l.filter fun e => aheadE e h v).length
def inE (h : Nat) (f t : Int) (e : Ent) : Bool := decide (e.1 = h ∧ f ≤ e.2.1 ∧ e.2.1 ≤ t)
def uptoE (h : Nat) (t : Int) (e : Ent) : Bool := decide (e.1 = h ∧ e.2.1 ≤ t)
def rangeE (l : List Ent) (h : Nat) (f t : Int) : List Ent := l.filter (inE h f t)
def lastE (l : List Ent) (h : Nat) (t : Int) : Option Ent := (l.filter (uptoE h t)).getLast?
theorem searchE_le (l : List Ent) (h : Nat) (v : Int) : searchE l h v ≤ l.length := List.length_filter_le _ _

theorem sortedE_get {l : List Ent} (hs : sortedE l = true) {i j : Nat} (hij : i < j) (hj : j < l.length) : lessE (l[i]'(by omega)) l[j] = true :=
  List.pairwise_iff_getElem.1 (of_decide_eq_true hs) i j (by omega) hj hij
theorem sortedE_of_next {l : List Ent} (h : ∀ i, (hi : i + 1 < l.length) → lessE l[i] l[i + 1] = true) : sortedE l = true := by
  refine decide_eq_true (List.pairwise_iff_getElem.2 ?_)
  intro i j hi hj hij
  obtain ⟨d, rfl⟩ : ∃ d, j = i + 1 + d := ⟨j - (i + 1), by omega⟩
  induction d with
  | zero => exact h i hj
  | succ d ih => exact lessE_trans (ih (by omega) (by omega)) (h (i + 1 + d) (by omega))
theorem not_sortedE {l : List Ent} {i : Nat} (hi : i + 1 < l.length) (h : lessE l[i] l[i + 1] = false) : sortedE l = false := by
  rw [← Bool.not_eq_true]
  intro hs
  have := sortedE_get hs (show i < i + 1 by omega) hi
  rw [h] at this; cases this

theorem filter_mid {p : Ent → Bool} {l : List Ent} {k m : Nat} (hkm : k ≤ m) (hm : m ≤ l.length) (h1 : ∀ i, (hi : i < l.length) → i < k → p l[i] = false) (h2 : ∀ i, (hi : i < l.length) → k ≤ i → i < m → p l[i] = true) (h3 : ∀ i, (hi : i < l.length) → m ≤ i → p l[i] = false) :
    l.filter p = (l.drop k).take (m - k) := by
  have e : l = l.take k ++ ((l.drop k).take (m - k) ++ (l.drop k).drop (m - k)) := by rw [List.take_append_drop, List.take_append_drop]
  have f1 : (l.take k).filter p = [] := by
    rw [List.filter_eq_nil_iff]
    intro x hx
    obtain ⟨i, hi, rfl⟩ := List.getElem_of_mem hx
    simp only [List.length_take] at hi
    rw [List.getElem_take, h1 i (by omega) (by omega)]; simp
  have f2 : ((l.drop k).take (m - k)).filter p = (l.drop k).take (m - k) := by
    rw [List.filter_eq_self]
    intro x hx
    obtain ⟨i, hi, rfl⟩ := List.getElem_of_mem hx
    simp only [List.length_take, List.length_drop] at hi
    rw [List.getElem_take, List.getElem_drop]
    exact h2 (k + i) (by omega) (by omega) (by omega)
  have f3 : ((l.drop k).drop (m - k)).filter p = [] := by
    rw [List.filter_eq_nil_iff]
    intro x hx
    obtain ⟨i, hi, rfl⟩ := List.getElem_of_mem hx
    simp only [List.length_drop] at hi
    rw [List.getElem_drop, List.getElem_drop, h3 _ (by omega) (by omega)]; simp
  conv => lhs; rw [e]
  rw [List.filter_append, List.filter_append, f1, f2, f3, List.nil_append, List.append_nil]

theorem searchE_eq {l : List Ent} {h : Nat} {v : Int} {k : Nat} (hk : k ≤ l.length) (h1 : ∀ i, (hi : i < l.length) → i < k → aheadE l[i] h v = true) (h2 : ∀ i, (hi : i < l.length) → k ≤ i → aheadE l[i] h v = false) : searchE l h v = k := by
  unfold searchE
  rw [filter_mid (k := 0) (m := k) (by omega) hk (fun i _ hi => absurd hi (by omega)) (fun i hi _ h => h1 i hi h) h2]
  simp; omega
/-- Where a sorted list is searched: what is ahead, and what is not. -/
theorem searchE_cut {l : List Ent} (hs : sortedE l = true) (h : Nat) (v : Int) : ∀ i, (hi : i < l.length) → (aheadE l[i] h v = true ↔ i < searchE l h v) := by
  -- the first one that is not ahead
  have hex : ∃ k, k ≤ l.length ∧ (∀ i, (hi : i < l.length) → i < k → aheadE l[i] h v = true) ∧ (∀ i, (hi : i < l.length) → k ≤ i → aheadE l[i] h v = false) := by
    have : ∀ n, n ≤ l.length → (∀ i, (hi : i < l.length) → i < n → aheadE l[i] h v = true) ∨ ∃ k, k ≤ l.length ∧ (∀ i, (hi : i < l.length) → i < k → aheadE l[i] h v = true) ∧ (∀ i, (hi : i < l.length) → k ≤ i → aheadE l[i] h v = false) := by
      intro n
      induction n with
      | zero => intro _; exact .inl fun i _ hi => absurd hi (by omega)
      | succ n ih =>
        intro hn
        rcases ih (by omega) with h1 | h1
        · rcases hb : aheadE (l[n]'(by omega)) h v with _ | _
          · refine .inr ⟨n, by omega, h1, fun i hi hni => ?_⟩
            rcases Nat.eq_or_lt_of_le hni with rfl | hlt
            · exact hb
            · rw [← Bool.not_eq_true]
              intro hc
              have := aheadE_mono (sortedE_get hs hlt hi) hc
              rw [hb] at this; cases this
          · refine .inl fun i hi hin => ?_
            rcases Nat.eq_or_lt_of_le (Nat.le_of_lt_succ hin) with rfl | hlt
            · exact hb
            · exact h1 i hi hlt
        · exact .inr h1
    rcases this l.length (Nat.le_refl _) with h1 | h1
    · exact ⟨l.length, Nat.le_refl _, h1, fun i hi hk => absurd hi (by omega)⟩
    · exact h1
  obtain ⟨k, hk, h1, h2⟩ := hex
  intro i hi
  rw [searchE_eq hk h1 h2]
  constructor
  · intro ha
    rcases Nat.lt_or_ge i k with hlt | hge
    · exact hlt
    · rw [h2 i hi hge] at ha; cases ha
  · exact h1 i hi

/-- A range of a sorted list: from where it is searched on, as long as they are of it. -/
theorem rangeE_eq {l : List Ent} (hs : sortedE l = true) {h : Nat} {f t : Int} {m : Nat} (hkm : searchE l h f ≤ m) (hm : m ≤ l.length) (h2 : ∀ i, (hi : i < l.length) → searchE l h f ≤ i → i < m → uptoE h t l[i] = true)
    (h3 : (hm : m < l.length) → uptoE h t l[m] = false) : rangeE l h f t = (l.drop (searchE l h f)).take (m - searchE l h f) := by
  have hc := searchE_cut hs h f
  refine filter_mid hkm hm (fun i hi hk => ?_) (fun i hi hk him => ?_) (fun i hi hmi => ?_)
  · have := (hc i hi).2 hk
    rw [aheadE_iff] at this
    unfold inE
    refine decide_eq_false ?_
    omega
  · have h1 := h2 i hi hk him
    have h0 : ¬ aheadE l[i] h f = true := fun hx => absurd ((hc i hi).1 hx) (by omega)
    rw [aheadE_iff] at h0
    unfold uptoE at h1
    have := of_decide_eq_true h1
    unfold inE
    refine decide_eq_true ?_
    omega
  · have hml : m < l.length := by omega
    have h1 := h3 hml
    have h0 : ¬ aheadE l[m] h f = true := fun hx => absurd ((hc m hml).1 hx) (by omega)
    have h4 : i = m ∨ lessE l[m] l[i] = true := by
      rcases Nat.eq_or_lt_of_le hmi with rfl | hlt
      · exact .inl rfl
      · exact .inr (sortedE_get hs hlt hi)
    rw [aheadE_iff] at h0
    unfold uptoE at h1
    have h1 := of_decide_eq_false h1
    unfold inE
    refine decide_eq_false ?_
    rcases h4 with rfl | h4
    · omega
    · rw [lessE_iff] at h4; omega

theorem getLast_filter {p : Ent → Bool} {l : List Ent} {k : Nat} (hk : k < l.length) (hp : p l[k] = true) (h3 : ∀ i, (hi : i < l.length) → k < i → p l[i] = false) : (l.filter p).getLast? = some l[k] := by
  have e : l = l.take (k + 1) ++ l.drop (k + 1) := by rw [List.take_append_drop]
  have f3 : (l.drop (k + 1)).filter p = [] := by
    rw [List.filter_eq_nil_iff]
    intro x hx
    obtain ⟨i, hi, rfl⟩ := List.getElem_of_mem hx
    simp only [List.length_drop] at hi
    rw [List.getElem_drop, h3 _ (by omega) (by omega)]; simp
  conv => lhs; rw [e]
  rw [List.filter_append, f3, List.append_nil, List.take_add_one, List.getElem?_eq_getElem hk, List.filter_append]
  simp [hp]
theorem none_filter {p : Ent → Bool} {l : List Ent} (h3 : ∀ i, (hi : i < l.length) → p l[i] = false) : l.filter p = [] := by
  rw [List.filter_eq_nil_iff]
  intro x hx
  obtain ⟨i, hi, rfl⟩ := List.getElem_of_mem hx
  rw [h3 i hi]; simp
/-- The last one up to a version, as the program finds it: where it stops, looked at from one less. -/
theorem upto_tail {l : List Ent} (hs : sortedE l = true) {h : Nat} {t : Int} {m : Nat} (hkm : searchE l h t ≤ m) (h3 : (hm : m < l.length) → uptoE h t l[m] = false) : ∀ i, (hi : i < l.length) → m ≤ i → uptoE h t l[i] = false := by
  intro i hi hmi
  have hml : m < l.length := by omega
  have h1 := h3 hml
  have h0 : ¬ aheadE l[m] h t = true := fun hx => absurd ((searchE_cut hs h t m hml).1 hx) (by omega)
  rcases Nat.eq_or_lt_of_le hmi with rfl | hlt
  · exact h1
  · have h4 := sortedE_get hs hlt hi
    rw [aheadE_iff] at h0
    rw [lessE_iff] at h4
    unfold uptoE at h1 ⊢
    have h1 := of_decide_eq_false h1
    refine decide_eq_false ?_
    omega
theorem lastE_some {l : List Ent} (hs : sortedE l = true) {h : Nat} {t : Int} {m : Nat} (hkm : searchE l h t ≤ m + 1) (hm : m < l.length) (h3 : (hm : m + 1 < l.length) → uptoE h t l[m + 1] = false) (hp : uptoE h t l[m] = true) : lastE l h t = some l[m] := by
  unfold lastE
  exact getLast_filter hm hp fun i hi hmi => upto_tail hs hkm h3 i hi (by omega)
theorem lastE_zero {l : List Ent} (hs : sortedE l = true) {h : Nat} {t : Int} (hkm : searchE l h t = 0) (h3 : (hm : 0 < l.length) → uptoE h t l[0] = false) : lastE l h t = none := by
  unfold lastE
  rw [none_filter (fun i hi => upto_tail hs (by omega) h3 i hi (Nat.zero_le _))]; rfl
theorem lastE_none {l : List Ent} (hs : sortedE l = true) {h : Nat} {t : Int} {m : Nat} (hkm : searchE l h t ≤ m + 1) (hm : m < l.length) (h3 : (hm : m + 1 < l.length) → uptoE h t l[m + 1] = false) (hp : uptoE h t l[m] = false) (hk : m + 1 = searchE l h t) : lastE l h t = none := by
  unfold lastE
  rw [none_filter (fun i hi => ?_)]; · rfl
  rcases Nat.lt_or_ge m i with h1 | h1
  · exact upto_tail hs hkm h3 i hi (by omega)
  · rcases Nat.eq_or_lt_of_le h1 with rfl | hlt
    · exact hp
    · have h4 := sortedE_get hs hlt hm
      have h0 := (searchE_cut hs h t m hm).2 (by omega)
      rw [aheadE_iff] at h0
      rw [lessE_iff] at h4
      unfold uptoE at hp ⊢
      have h1 := of_decide_eq_false hp
      refine decide_eq_false ?_
      omega

/-- Put in at its place, if it is not there. -/
def posE (e : Ent) (o : List Ent) : Nat := (o.takeWhile fun x => lessE x e).length
def insE (o : List Ent) (e : Ent) : List Ent := if o[posE e o]? = some e then o else o.take (posE e o) ++ e :: o.drop (posE e o)
def sortE (l : List Ent) : List Ent := l.foldl insE []
theorem posE_le (e : Ent) (o : List Ent) : posE e o ≤ o.length := by
  unfold posE
  have := (List.takeWhile_prefix (l := o) (p := fun x => lessE x e)).length_le
  exact this
theorem posE_eq {e : Ent} {o : List Ent} {k : Nat} (hk : k ≤ o.length) (h1 : ∀ i, (hi : i < o.length) → i < k → lessE o[i] e = true) (h2 : (hk : k < o.length) → lessE o[k] e = false) : posE e o = k := by
  unfold posE
  have e1 : o = o.take k ++ o.drop k := by rw [List.take_append_drop]
  conv => lhs; rw [e1]
  rw [List.takeWhile_append_of_pos (fun x hx => by
    obtain ⟨i, hi, rfl⟩ := List.getElem_of_mem hx
    simp only [List.length_take] at hi
    rw [List.getElem_take]; exact h1 i (by omega) (by omega))]
  have : (o.drop k).takeWhile (fun x => lessE x e) = [] := by
    rcases Nat.lt_or_ge k o.length with h | h
    · rw [List.drop_eq_getElem_cons h, List.takeWhile_cons, h2 h]; rfl
    · rw [List.drop_eq_nil_of_le h]; rfl
  rw [this]; simp; omega
theorem posE_below {e : Ent} {o : List Ent} (i : Nat) (hi : i < posE e o) : lessE (o[i]'(by have := posE_le e o; omega)) e = true := by
  have hp := List.takeWhile_prefix (l := o) (p := fun x => lessE x e)
  have h1 : i < (o.takeWhile fun x => lessE x e).length := hi
  have h2 := hp.getElem h1
  rw [← h2]
  have := List.all_takeWhile (l := o) (p := fun x => lessE x e)
  rw [List.all_eq_true] at this
  exact this _ (List.getElem_mem h1)
theorem posE_at {e : Ent} {o : List Ent} (h : posE e o < o.length) : lessE o[posE e o] e = false := by
  rw [← Bool.not_eq_true]
  intro hc
  have : ∀ (o : List Ent) (h : posE e o < o.length), lessE o[posE e o] e = true → False := by
    intro o
    induction o with
    | nil => intro h; simp at h
    | cons x o ih =>
      intro h hc
      unfold posE at h hc ih
      rw [List.takeWhile_cons] at h
      by_cases hx : lessE x e = true
      · simp only [List.takeWhile_cons, hx, if_true, List.length_cons, List.getElem_cons_succ] at h hc
        exact ih (by omega) hc
      · simp only [List.takeWhile_cons, hx, if_false, List.length_nil, List.getElem_cons_zero, Bool.false_eq_true] at h hc
  exact this o h hc
theorem insE_sorted {o : List Ent} (hs : sortedE o = true) (e : Ent) : sortedE (insE o e) = true := by
  unfold insE
  by_cases h : o[posE e o]? = some e
  · rw [if_pos h]; exact hs
  · rw [if_neg h]
    have hs' := of_decide_eq_true hs
    refine decide_eq_true ?_
    have hgt : ∀ y ∈ o.drop (posE e o), lessE e y = true := by
      intro y hy
      obtain ⟨i, hi, rfl⟩ := List.getElem_of_mem hy
      simp only [List.length_drop] at hi
      rw [List.getElem_drop]
      have hk : posE e o < o.length := by omega
      have h0 := posE_at hk
      have h1 : lessE e o[posE e o] = true := by
        rcases h2 : lessE e o[posE e o] with _ | _
        · exact absurd (by rw [List.getElem?_eq_getElem hk, lessE_tri h0 h2]) h
        · rfl
      rcases Nat.eq_or_lt_of_le (Nat.le_add_right (posE e o) i) with h3 | h3
      · have e2 : o[posE e o + i] = o[posE e o] := by congr 1; omega
        rw [e2]; exact h1
      · exact lessE_trans h1 (sortedE_get hs h3 (by omega))
    have hlt : ∀ x ∈ o.take (posE e o), lessE x e = true := by
      intro x hx
      obtain ⟨i, hi, rfl⟩ := List.getElem_of_mem hx
      simp only [List.length_take] at hi
      rw [List.getElem_take]
      exact posE_below i (by omega)
    rw [List.pairwise_append, List.pairwise_cons]
    refine ⟨hs'.sublist (List.take_sublist _ _), ⟨hgt, hs'.sublist (List.drop_sublist _ _)⟩, ?_⟩
    intro x hx y hy
    rcases List.mem_cons.1 hy with rfl | hy
    · exact hlt x hx
    · exact lessE_trans (hlt x hx) (hgt y hy)
theorem mem_insE {o : List Ent} {e x : Ent} : x ∈ insE o e ↔ x = e ∨ x ∈ o := by
  unfold insE
  by_cases h : o[posE e o]? = some e
  · rw [if_pos h]
    have := List.mem_of_getElem? h
    constructor
    · exact .inr
    · rintro (rfl | h)
      · exact this
      · exact h
  · rw [if_neg h]
    have e1 : x ∈ o ↔ x ∈ o.take (posE e o) ∨ x ∈ o.drop (posE e o) := by rw [← List.mem_append, List.take_append_drop]
    rw [e1, List.mem_append, List.mem_cons]
    constructor
    · rintro (h | h | h)
      · exact .inr (.inl h)
      · exact .inl h
      · exact .inr (.inr h)
    · rintro (h | h | h)
      · exact .inr (.inl h)
      · exact .inl h
      · exact .inr (.inr h)
theorem insE_length (o : List Ent) (e : Ent) : (insE o e).length ≤ o.length + 1 := by
  unfold insE
  split
  · omega
  · have := posE_le e o
    simp; omega
theorem foldl_insE_sorted (l : List Ent) : ∀ {o : List Ent}, sortedE o = true → sortedE (l.foldl insE o) = true := by
  induction l with
  | nil => exact fun h => h
  | cons e l ih => exact fun h => ih (insE_sorted h e)
theorem sortE_sorted (l : List Ent) : sortedE (sortE l) = true := foldl_insE_sorted l rfl
theorem mem_foldl_insE (l : List Ent) : ∀ {o : List Ent} {x : Ent}, x ∈ l.foldl insE o ↔ x ∈ o ∨ x ∈ l := by
  induction l with
  | nil => simp
  | cons e l ih =>
    intro o x
    rw [List.foldl_cons, ih, mem_insE, List.mem_cons]
    constructor
    · rintro ((h | h) | h)
      · exact .inr (.inl h)
      · exact .inl h
      · exact .inr (.inr h)
    · rintro (h | h | h)
      · exact .inl (.inr h)
      · exact .inl (.inl h)
      · exact .inr h
theorem mem_sortE {l : List Ent} {x : Ent} : x ∈ sortE l ↔ x ∈ l := by unfold sortE; rw [mem_foldl_insE]; simp
theorem foldl_insE_length (l : List Ent) : ∀ (o : List Ent), (l.foldl insE o).length ≤ o.length + l.length := by
  induction l with
  | nil => simp
  | cons e l ih => intro o; have h1 := ih (insE o e); have h2 := insE_length o e; simp only [List.foldl_cons, List.length_cons]; omega
theorem sortE_length (l : List Ent) : (sortE l).length ≤ l.length := by have := foldl_insE_length l []; unfold sortE; simpa using this
/-- Sorted lists of the same entries are the same. -/
theorem sorted_ext : ∀ {a b : List Ent}, sortedE a = true → sortedE b = true → (∀ x, x ∈ a ↔ x ∈ b) → a = b := by
  intro a
  induction a with
  | nil =>
    intro b _ _ h
    cases b with
    | nil => rfl
    | cons y b => exact absurd ((h y).2 (List.mem_cons_self ..)) (by simp)
  | cons x a ih =>
    intro b ha hb h
    cases b with
    | nil => exact absurd ((h x).1 (List.mem_cons_self ..)) (by simp)
    | cons y b =>
      have ha' := List.pairwise_cons.1 (of_decide_eq_true ha)
      have hb' := List.pairwise_cons.1 (of_decide_eq_true hb)
      have hxy : x = y := by
        rcases List.mem_cons.1 ((h x).1 (List.mem_cons_self ..)) with h1 | h1
        · exact h1
        · rcases List.mem_cons.1 ((h y).2 (List.mem_cons_self ..)) with h2 | h2
          · exact h2.symm
          · have := lessE_asymm (hb'.1 x h1)
            rw [ha'.1 y h2] at this; cases this
      subst hxy
      congr 1
      refine ih (decide_eq_true ha'.2) (decide_eq_true hb'.2) fun z => ?_
      constructor
      · intro hz
        rcases List.mem_cons.1 ((h z).1 (List.mem_cons_of_mem _ hz)) with rfl | h1
        · have := ha'.1 z hz
          rw [lessE_irr] at this; cases this
        · exact h1
      · intro hz
        rcases List.mem_cons.1 ((h z).2 (List.mem_cons_of_mem _ hz)) with rfl | h1
        · have := hb'.1 z hz
          rw [lessE_irr] at this; cases this
        · exact h1
end Go.Proofs.Ytikodobglhjoiaa
