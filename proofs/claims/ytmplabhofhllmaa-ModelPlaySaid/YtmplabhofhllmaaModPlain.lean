/-
  MODEL: what pages are, put together. No program in sight.
-/
import Derived.Test.YtmplabhofhllmaaModPage
import Derived.Test.YtmplabhofhllmaaMod6
namespace Go.Proofs.Ytmplabhofhllmaa
open Go.RowKit
set_option linter.unusedVariables false

/-- Versions in a row, from o on. -/
def InRow (o : Nat) (S : List Tld) : Prop := ∀ (i : Nat) (t : Tld), S[i]? = some t → t.2.1 = ((o + i : Nat) : Int)
theorem InRow.tail {o : Nat} {t : Tld} {S : List Tld} (h : InRow o (t :: S)) : InRow (o + 1) S := fun i x hx => by
  have := h (i + 1) x (by simpa using hx)
  rw [this]; congr 1; omega
theorem filt_range (a b : Nat) : ∀ (S : List Tld) (o : Nat), InRow o S → S.filter (fun t => decide ((a : Int) ≤ t.2.1) && decide (t.2.1 < (b : Int))) = (S.drop (a - o)).take (b - max a o) := by
  intro S
  induction S with
  | nil => intro o _; simp
  | cons t S ih =>
    intro o h
    have h0 := h 0 t (by simp)
    have h1 := ih (o + 1) h.tail
    rw [Nat.add_zero] at h0
    rcases Nat.lt_or_ge o a with ha | ha
    · have hf : (decide ((a : Int) ≤ t.2.1) && decide (t.2.1 < (b : Int))) = false := by rw [h0]; simp; omega
      rw [List.filter_cons, hf]
      simp only [Bool.false_eq_true, if_false]
      rw [h1, show a - o = (a - (o + 1)) + 1 by omega, List.drop_succ_cons, show max a (o + 1) = max a o by omega]
    · rcases Nat.lt_or_ge o b with hb | hb
      · have hf : (decide ((a : Int) ≤ t.2.1) && decide (t.2.1 < (b : Int))) = true := by rw [h0]; simp; omega
        rw [List.filter_cons, hf]
        simp only [if_true]
        rw [h1, show a - o = 0 by omega, show a - (o + 1) = 0 by omega, List.drop_zero, List.drop_zero, show b - max a o = (b - max a (o + 1)) + 1 by omega, List.take_succ_cons]
      · have hf : (decide ((a : Int) ≤ t.2.1) && decide (t.2.1 < (b : Int))) = false := by rw [h0]; simp; omega
        rw [List.filter_cons, hf]
        simp only [Bool.false_eq_true, if_false]
        rw [h1, show b - max a o = 0 by omega, show b - max a (o + 1) = 0 by omega, List.take_zero, List.take_zero]
theorem page_up {S : List Tld} (h : InRow 0 S) (a c : Nat) : pageT S (a : Int) (c : Int) false = (S.drop a).take c := by
  have h1 := filt_range a (a + c) S 0 h
  rw [show a + c - max a 0 = c by omega, Nat.sub_zero] at h1
  rw [← h1]
  unfold pageT
  simp only [Bool.false_eq_true, if_false]
  refine List.filter_congr fun t _ => ?_
  unfold inPage
  simp only [Bool.false_eq_true, if_false]
  rw [Bool.eq_iff_iff]
  simp
  omega
theorem page_down {S : List Tld} (h : InRow 0 S) (a c : Nat) : pageT S (a : Int) (c : Int) true = ((S.drop (a + 1 - c)).take (a + 1 - (a + 1 - c))).reverse := by
  have h1 := filt_range (a + 1 - c) (a + 1) S 0 h
  rw [show a + 1 - max (a + 1 - c) 0 = a + 1 - (a + 1 - c) by omega, Nat.sub_zero] at h1
  rw [← h1]
  unfold pageT
  simp only [if_true]
  congr 1
  refine List.filter_congr fun t ht => ?_
  obtain ⟨i, hi, rfl⟩ := List.getElem_of_mem ht
  have hv := h i _ (List.getElem?_eq_getElem hi)
  unfold inPage
  simp only [if_true]
  rw [Bool.eq_iff_iff]
  simp
  omega
theorem up_next {S : List Tld} (a c : Nat) : S.take a ++ (S.drop a).take c = S.take (a + c) := by rw [List.take_add]
theorem down_next {S : List Tld} (a c : Nat) : (S.drop a).reverse ++ ((S.drop (a - c)).take (a - (a - c))).reverse = (S.drop (a - c)).reverse := by
  rw [← List.reverse_append]
  congr 1
  have h := List.take_append_drop (a - (a - c)) (S.drop (a - c))
  rw [List.drop_drop, show a - c + (a - (a - c)) = a by omega] at h
  exact h
/-- Each stream's versions are in a row. -/
def Rowed (L : List BatP) : Prop := ∀ s, InRow 0 (streamL L s)
theorem told_row (s : ByteArray) (l : List Ev) : ∀ (f : Int) (i : Nat) (t : Tld), (toldFrom s f l)[i]? = some t → t.1 = s ∧ t.2.1 = f + i := by
  induction l with
  | nil => intro f i t h; simp [toldFrom] at h
  | cons e l ih =>
    intro f i t h
    rw [toldFrom] at h
    cases i with
    | zero => simp at h; subst h; exact ⟨rfl, by simp⟩
    | succ i =>
      have := ih (f + 1) i t (by simpa using h)
      exact ⟨this.1, by rw [this.2]; push_cast; omega⟩
theorem stream_app (L : List BatP) (pe : Value) (s s' : ByteArray) (f : Int) (l : List Ev) : streamL (L ++ [(pe, (s, f, l))]) s' = streamL L s' ++ (if s = s' then toldFrom s f l else []) := by
  unfold streamL
  rw [allL_append, List.filter_append]
  congr 1
  have e : allL [(pe, (s, f, l))] = toldFrom s f l := by simp [allL, toldB]
  rw [e]
  split
  · rename_i h
    subst h
    rw [List.filter_eq_self]
    intro t ht
    have := (toldFrom_mem ht).1
    simp [ofT, this]
  · rename_i h
    rw [List.filter_eq_nil_iff]
    intro t ht
    have := (toldFrom_mem ht).1
    simp [ofT, this, h]
theorem Rowed.app {L : List BatP} (h : Rowed L) (pe : Value) (s : ByteArray) (l : List Ev) : Rowed (L ++ [(pe, (s, lastL L s + 1, l))]) := by
  intro s' i t ht
  rw [stream_app] at ht
  rcases Nat.lt_or_ge i (streamL L s').length with h1 | h1
  · rw [List.getElem?_append_left h1] at ht
    exact h s' i t ht
  · rw [List.getElem?_append_right h1] at ht
    split at ht
    · rename_i hs
      subst hs
      have := (told_row s l _ _ t ht).2
      rw [this]
      unfold lastL
      omega
    · simp at ht
theorem Rowed.nil : Rowed [] := fun s i t h => by simp [streamL, allL] at h
def nmL : List ByteArray := [⟨#[97]⟩, ⟨#[98]⟩, ⟨#[97, 98]⟩, ⟨#[255]⟩]
def nm (k : Nat) : ByteArray := nmL.getD k ⟨#[]⟩
def Named (L : List BatP) : Prop := ∀ p ∈ L, ∃ k, k < 4 ∧ p.2.1 = nm k
theorem nm_inj : ∀ a, a < 4 → ∀ b, b < 4 → nm a = nm b → a = b := by decide +kernel
theorem nm_size : ∀ a, a < 4 → 0 < (nm a).size ∧ (nm a).size ≤ 32 := by decide +kernel
def sumS (L : List BatP) : Nat → Nat
  | 0 => 0
  | k + 1 => sumS L k + (streamL L (nm k)).length
theorem sum_cons (T : List Tld) (t : Tld) (s : ByteArray) : ((t :: T).filter (ofT s)).length = (if t.1 = s then 1 else 0) + (T.filter (ofT s)).length := by
  rw [List.filter_cons]
  unfold ofT
  by_cases h : t.1 = s
  · simp [h]; omega
  · simp [h]
theorem sum_all (T : List Tld) (h : ∀ t ∈ T, ∃ k, k < 4 ∧ t.1 = nm k) : (T.filter (ofT (nm 0))).length + (T.filter (ofT (nm 1))).length + (T.filter (ofT (nm 2))).length + (T.filter (ofT (nm 3))).length = T.length := by
  induction T with
  | nil => rfl
  | cons t T ih =>
    have h1 := ih fun x hx => h x (List.mem_cons_of_mem _ hx)
    obtain ⟨k, hk, hs⟩ := h t (by simp)
    rw [sum_cons, sum_cons, sum_cons, sum_cons, List.length_cons, hs]
    have e : ∀ j, j < 4 → (nm k = nm j ↔ k = j) := fun j hj => ⟨nm_inj k hk j hj, fun h => by rw [h]⟩
    simp only [e 0 (by omega), e 1 (by omega), e 2 (by omega), e 3 (by omega)]
    rcases (show k = 0 ∨ k = 1 ∨ k = 2 ∨ k = 3 from by omega) with rfl | rfl | rfl | rfl <;> simp <;> omega
theorem sumS_all {L : List BatP} (h : Named L) : sumS L 4 = (allL L).length := by
  have := sum_all (allL L) (fun t ht => by
    obtain ⟨p, hp, h2⟩ := List.mem_flatMap.1 ht
    obtain ⟨k, hk, h3⟩ := h p hp
    exact ⟨k, hk, by rw [(toldFrom_mem h2).1, h3]⟩)
  unfold sumS sumS sumS sumS sumS streamL
  omega
theorem Named.app {L : List BatP} (h : Named L) (pe : Value) (k : Nat) (hk : k < 4) (f : Int) (l : List Ev) : Named (L ++ [(pe, (nm k, f, l))]) := by
  intro p hp
  rcases List.mem_append.1 hp with hp | hp
  · exact h p hp
  · rw [List.mem_singleton.1 hp]; exact ⟨k, hk, rfl⟩
/-- The events of an Append. -/
def tEv (x : Nat) : Ev := (⟨#[116]⟩, ⟨#[]⟩, x)
theorem ev_fine (x : Nat) (hx : x < 18446744073709551616) (m : Nat) : (∀ e ∈ List.replicate m (tEv x), checkV e = 0) ∧ ∀ e ∈ List.replicate m (tEv x), okV e := by
  refine ⟨fun e he => ?_, fun e he => ?_⟩
  · rw [(List.mem_replicate.1 he).2]; rfl
  · rw [(List.mem_replicate.1 he).2]; exact ⟨by show 1 ≤ maxLen; decide, by show 0 ≤ maxLen; decide, hx⟩
theorem app_fine {L : List BatP} (hL : (∀ p ∈ L, fineB p.2) ∧ L.length ≤ 1000) (k : Nat) (hk : k < 4) (x m : Nat) (hx : x < 18446744073709551616) (hm : 1 ≤ m ∧ m ≤ 8) : appE L (nm k) (-2) (List.replicate m (tEv x)) = 0 := by
  have h1 := ev_fine x hx m
  have hlen := streamL_len hL.1 (nm k)
  have hc : ∀ f : Int, 0 ≤ f → f ≤ 100000 → checkB (nm k, f, List.replicate m (tEv x)) = 0 := fun f h2 h3 =>
    checkB_mk (nm_size k hk) (by simp only [List.length_replicate]; omega) (by simp only [List.length_replicate]; omega) h1.1
  unfold appE
  rw [if_neg (by rw [hc 0 (by omega) (by omega)]; decide), if_neg (by omega), if_neg (by omega)]
  exact hc _ (by unfold lastL; omega) (by unfold lastL; omega)
end Go.Proofs.Ytmplabhofhllmaa
