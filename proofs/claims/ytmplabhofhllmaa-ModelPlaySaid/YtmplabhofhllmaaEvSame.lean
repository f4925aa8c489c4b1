/-
  EVENTS: are two the same.
-/
import Derived.Test.YtmplabhofhllmaaEvBytes
namespace Go.Proofs.Ytmplabhofhllmaa
open Go.RowKit
set_option linter.unusedVariables false

set_option maxHeartbeats 400000 in
theorem events_Same (x y : Ev) (w : World) (hx : okV x) (hy : okV y) :
    Calls Try.prog 37 #[.agg (evC x), .agg (evC y)] w fun e w' => e = .returned (.bool (decide (x = y))) ∧ Below w.heap.size w w' := by
  obtain ⟨t, d, n⟩ := x
  obtain ⟨t', d', n'⟩ := y
  obtain ⟨hx1, hx2, hx3⟩ := hx
  obtain ⟨hy1, hy2, hy3⟩ := hy
  simp only [] at hx3 hy3
  unfold evC
  dsimp only
  have hz := lit2_below' w (.cells #[.string t, .string d, .float .f64 n] 46) (.cells #[.string t', .string d', .float .f64 n'] 46)
  by_cases h1 : t = t'
  · subst h1
    by_cases h2 : d = d'
    · subst h2
      have hw := fun w => weights_Same n n' w hx3 hy3
      have hd : decide ((t, d, n) = (t, d, n')) = decide (n = n') := by simp
      rw [hd]
      go_enter Try.func37, Try.ntmps37
      go_wp2_with fail
      refine (hw _).mono ?_
      rintro e w1 ⟨rfl, hb1⟩
      go_wp2
      go_ret
      exact ⟨rfl, below_chain hz hb1⟩
    · have hd : decide ((t, d, n) = (t, d', n')) = false := by simp [h2]
      have e2 : (d.toList == d'.toList) = false := by rw [beq_eq_false_iff_ne, Ne, toList_inj]; exact h2
      rw [hd]
      go_enter Try.func37, Try.ntmps37
      go_wp2
      go_ret
      exact ⟨rfl, hz⟩
  · have hd : decide ((t, d, n) = (t', d', n')) = false := by simp [h1]
    have e1 : (t.toList == t'.toList) = false := by rw [beq_eq_false_iff_ne, Ne, toList_inj]; exact h1
    rw [hd]
    go_enter Try.func37, Try.ntmps37
    go_wp2
    go_ret
    exact ⟨rfl, hz⟩
set_option maxHeartbeats 400000 in
theorem ref_Same (x y : Ev) (w : World) (hx : okV x) (hy : okV y) :
    Calls Try.prog 36 #[.agg (evC x), .agg (evC y)] w fun e w' => e = .returned (.bool (decide (x = y))) ∧ Below w.heap.size w w' := by
  obtain ⟨t, d, n⟩ := x
  obtain ⟨t', d', n'⟩ := y
  obtain ⟨hx1, hx2, hx3⟩ := hx
  obtain ⟨hy1, hy2, hy3⟩ := hy
  simp only [] at hx3 hy3
  unfold evC
  dsimp only
  have hz := lit2_below' w (.cells #[.string t, .string d, .float .f64 n] 46) (.cells #[.string t', .string d', .float .f64 n'] 46)
  by_cases h1 : t = t'
  · subst h1
    by_cases h2 : d = d'
    · subst h2
      have hw := fun w => ref_SameW n n' w hx3 hy3
      have hd : decide ((t, d, n) = (t, d, n')) = decide (n = n') := by simp
      rw [hd]
      go_enter Try.func36, Try.ntmps36
      go_wp2_with fail
      refine (hw _).mono ?_
      rintro e w1 ⟨rfl, hb1⟩
      go_wp2
      go_ret
      exact ⟨rfl, below_chain hz hb1⟩
    · have hd : decide ((t, d, n) = (t, d', n')) = false := by simp [h2]
      have e2 : (d.toList == d'.toList) = false := by rw [beq_eq_false_iff_ne, Ne, toList_inj]; exact h2
      rw [hd]
      go_enter Try.func36, Try.ntmps36
      go_wp2
      go_ret
      exact ⟨rfl, hz⟩
  · have hd : decide ((t, d, n) = (t', d', n')) = false := by simp [h1]
    have e1 : (t.toList == t'.toList) = false := by rw [beq_eq_false_iff_ne, Ne, toList_inj]; exact h1
    rw [hd]
    go_enter Try.func36, Try.ntmps36
    go_wp2
    go_ret
    exact ⟨rfl, hz⟩
end Go.Proofs.Ytmplabhofhllmaa
