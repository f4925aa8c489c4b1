/-
  MODEL: Cut.
-/
import Derived.Test.YtmplabhofhllmaaMod3
namespace Go.Proofs.Ytmplabhofhllmaa
open Go.RowKit
set_option linter.unusedVariables false

def CutOk (L : List BatP) (sure : Nat) (l : List Tld) (k : Nat) : Prop := k ≤ L.length ∧ sure ≤ k ∧ allL (L.take k) = l
theorem take_split {α : Type} (L : List α) {k k' : Nat} (h : k ≤ k') : L.take k' = L.take k ++ (L.take k').drop k := by
  have := List.take_append_drop k (L.take k')
  rw [List.take_take, Nat.min_eq_left h] at this
  exact this.symm
theorem drop_head {α : Type} {L : List α} {k k' : Nat} {p : α} (h : k < k') (hp : L[k]? = some p) : ∃ t, (L.take k').drop k = p :: t := by
  have h1 : (L.take k')[k]? = some p := by rw [List.getElem?_take_of_lt h]; exact hp
  obtain ⟨h2, h3⟩ := List.getElem?_eq_some_iff.1 h1
  exact ⟨_, by rw [List.drop_eq_getElem_cons h2, h3]⟩
theorem no_more {L : List BatP} {l R : List Tld} {k : Nat} (hl : l = allL (L.take k) ++ R) (hR : R ≠ []) (hne : ∀ p, L[k]? = some p → ∀ t, R ≠ toldB p.2 ++ t) (sure : Nat) : ∀ k', ¬ CutOk L sure l k' := by
  rintro k' ⟨h1, -, h2⟩
  rcases Nat.lt_or_ge k k' with h | h
  · obtain ⟨p, hp⟩ : ∃ p, L[k]? = some p := ⟨_, List.getElem?_eq_getElem (by omega)⟩
    obtain ⟨t, ht⟩ := drop_head h hp
    rw [take_split L (Nat.le_of_lt h), ht, allL_append, hl] at h2
    have h3 := (List.append_cancel_left h2).symm
    exact hne p hp (allL t) (by rw [h3]; unfold allL; rw [List.flatMap_cons])
  · have h3 : (allL (L.take k')).length ≤ (allL (L.take k)).length := by
      rw [take_split L h, allL_append, List.length_append]; omega
    rw [h2, hl, List.length_append] at h3
    exact hR (List.eq_nil_of_length_eq_zero (by omega))
theorem cut_lt {L : List BatP} (hf : ∀ p ∈ L, fineB p.2) {k k' : Nat} (h : k < k') (hk : k' ≤ L.length) : (allL (L.take k)).length < (allL (L.take k')).length := by
  obtain ⟨p, hp⟩ : ∃ p, L[k]? = some p := ⟨_, List.getElem?_eq_getElem (by omega)⟩
  obtain ⟨t, ht⟩ := drop_head h hp
  rw [take_split L (Nat.le_of_lt h), ht, allL_append, List.length_append]
  have := (hf p (List.mem_of_getElem? hp)).range
  unfold allL
  rw [List.flatMap_cons, List.length_append, toldB_len]
  omega
theorem cut_unique {L : List BatP} (hf : ∀ p ∈ L, fineB p.2) {k k' : Nat} (hk : k ≤ L.length) (hk' : k' ≤ L.length) (h : allL (L.take k) = allL (L.take k')) : k = k' := by
  rcases Nat.lt_trichotomy k k' with h1 | h1 | h1
  · have := cut_lt hf h1 hk'; rw [h] at this; omega
  · exact h1
  · have := cut_lt hf h1 hk; rw [h] at this; omega
set_option maxHeartbeats 1000000 in
theorem model_same (x y : Tld) (w : World) (hx : okT x) (hy : okT y) :
    Calls Try.prog 31 #[.agg (toldA x), .agg (toldA y)] w fun e w' => e = .returned (.bool (decide (x = y))) ∧ Below w.heap.size w w' := by
  obtain ⟨s, f, t, d, n⟩ := x
  obtain ⟨s', f', t', d', n'⟩ := y
  have he := fun w => events_Same (t, d, n) (t', d', n') w hx.2.2 hy.2.2
  have hz := lit2_below' w (.cells (toldA (s, f, t, d, n)) 48) (.cells (toldA (s', f', t', d', n')) 48)
  clear hx hy
  unfold toldA evC at *
  dsimp only at hz he ⊢
  by_cases h1 : s = s'
  · subst h1
    have e1 : (s.toList == s.toList) = true := by simp
    by_cases h2 : f = f'
    · subst h2
      have e2 : (f == f) = true := by simp
      have hd : decide ((s, f, t, d, n) = (s, f, t', d', n')) = decide ((t, d, n) = (t', d', n')) := by simp
      rw [hd]
      clear hd
      generalize decide ((t, d, n) = (t', d', n')) = bb at he ⊢
      go_enter Try.func31, Try.ntmps31
      go_wp2_with fail
      refine (he _).mono ?_
      rintro e w1 ⟨rfl, hb1⟩
      go_wp2
      go_ret
      exact ⟨rfl, below_chain hz hb1⟩
    · have e2 : (f == f') = false := by rw [beq_eq_false_iff_ne]; exact h2
      have hd : decide ((s, f, t, d, n) = (s, f', t', d', n')) = false := by simp [h2]
      rw [hd]
      go_enter Try.func31, Try.ntmps31
      go_wp2
      go_ret
      exact ⟨rfl, hz⟩
  · have e1 : (s.toList == s'.toList) = false := by rw [beq_eq_false_iff_ne, Ne, toList_inj]; exact h1
    have hd : decide ((s, f, t, d, n) = (s', f', t', d', n')) = false := by simp [h1]
    rw [hd]
    go_enter Try.func31, Try.ntmps31
    go_wp2
    go_ret
    exact ⟨rfl, hz⟩
/-- A slice from a place on. -/
theorem Tolds.rest {w : World} {A : Option Addr} {n c : Nat} {B R : List Tld} (h : Tolds w (.slice A n c) (B ++ R)) : Tolds w (Go.sliced A B.length n c 5) R := by
  obtain ⟨⟨A', c', hv, hn1, hn2, hlen, hcell⟩, hok⟩ := h
  obtain ⟨rfl, rfl, rfl⟩ := Value.slice.inj hv
  rw [List.length_append] at hn1 hlen hcell ⊢
  obtain ⟨A', hA'⟩ : ∃ A', Go.sliced A B.length (B.length + R.length) c 5 = .slice A' (B.length + R.length - B.length) (c - B.length) := ⟨_, rfl⟩
  have hA2 := (Value.slice.inj hA').1
  rw [hA', Nat.add_sub_cancel_left]
  refine ⟨⟨A', c - B.length, rfl, by omega, by omega, length_toldsC R, fun h0 => ?_⟩, fun t ht => hok t (List.mem_append_right _ ht)⟩
  obtain ⟨b, off, rfl, hlt, hc⟩ := hcell (by omega)
  refine ⟨b, off + B.length * 5, ?_, hlt, fun j hj => ?_⟩
  · rw [← hA2, if_neg (by omega)]; simp [Addr.add]
  · have hj' : B.length * 5 + j < (toldsC (B ++ R)).length := by rw [toldsC_append, List.length_append, length_toldsC B]; omega
    have := hc (B.length * 5 + j) hj'
    rw [Nat.add_assoc, this]
    congr 1
    simp only [toldsC_append]
    rw [List.getElem_append_right (by rw [length_toldsC]; omega)]
    congr 1
    rw [length_toldsC]; omega
end Go.Proofs.Ytmplabhofhllmaa
