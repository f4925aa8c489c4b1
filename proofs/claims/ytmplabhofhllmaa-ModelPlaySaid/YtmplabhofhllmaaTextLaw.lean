/-
  THE PLAIN LAW OF TEXTS: what is put is read; what is read was put. No program in sight.
-/
import Derived.Test.YtmplabhofhllmaaPlain
namespace Go.Proofs.Ytmplabhofhllmaa
set_option linter.unusedVariables false

theorem textL_short (l : List UInt8) (h : l.length ≤ 65535) : textL l = be 2 l.length ++ l := by unfold textL; rw [if_neg (by omega)]
theorem textL_length (l : List UInt8) (h : l.length ≤ 65535) : (textL l).length = l.length + 2 := by rw [textL_short l h, List.length_append, be_length]; omega
theorem num_text (l r : List UInt8) (h : l.length ≤ 65535) : num ((be 2 l.length ++ l ++ r).take 2) = l.length := by
  have e : (be 2 l.length ++ l ++ r).take 2 = be 2 l.length := by
    rw [List.append_assoc, List.take_append_of_le_length (by simp)]
    exact List.take_of_length_le (by simp)
  rw [e, num_be]; omega
theorem readOk_text (l r : List UInt8) (h : l.length ≤ 65535) : readOk (textL l ++ r) = true := by
  rw [textL_short l h]; unfold readOk; rw [num_text l r h]; simp
theorem drop2_text (l r : List UInt8) : (be 2 l.length ++ l ++ r).drop 2 = l ++ r := by
  rw [List.append_assoc]; exact List.drop_left' (by simp)
theorem readA_text (l r : List UInt8) (h : l.length ≤ 65535) : readA (textL l ++ r) = l := by
  unfold readA; rw [readOk_text l r h, if_pos rfl, textL_short l h, num_text l r h, drop2_text]; simp
theorem readB_text (l r : List UInt8) (h : l.length ≤ 65535) : readB (textL l ++ r) = r := by
  unfold readB; rw [readOk_text l r h, if_pos rfl, textL_short l h, num_text l r h, ← List.drop_drop, drop2_text]; simp
theorem readOk_cut (l : List UInt8) (j : Nat) (h : l.length ≤ 65535) (hj : j < l.length + 2) : readOk ((textL l).take j) = false := by
  rw [textL_short l h]; unfold readOk
  by_cases h2 : 2 ≤ j
  · have e : ((be 2 l.length ++ l).take j).take 2 = be 2 l.length := by
      rw [List.take_take, Nat.min_eq_left h2, List.take_append_of_le_length (by simp)]
      exact List.take_of_length_le (by simp)
    rw [e, num_be]; simp; omega
  · simp; omega
theorem text_back {s : List UInt8} (h : readOk s = true) : textL (readA s) ++ readB s = s ∧ (readA s).length ≤ 65535 := by
  have h' := h
  unfold readOk at h'
  rw [decide_eq_true_eq] at h'
  obtain ⟨h1, h2⟩ := h'
  have hl : (s.take 2).length = 2 := by simp; omega
  have hn : num (s.take 2) < 256 ^ 2 := by have := num_lt (s.take 2); rwa [hl] at this
  have ha : readA s = (s.drop 2).take (num (s.take 2)) := by unfold readA; rw [h, if_pos rfl]
  have hb : readB s = s.drop (2 + num (s.take 2)) := by unfold readB; rw [h, if_pos rfl]
  have hal : (readA s).length = num (s.take 2) := by rw [ha, List.length_take, List.length_drop]; omega
  have hbe : be 2 (num (s.take 2)) = s.take 2 := by have := be_num (s.take 2); rwa [hl] at this
  refine ⟨?_, by omega⟩
  rw [textL_short _ (by omega), hal, hbe, ha, hb, List.append_assoc, ← List.drop_drop, List.take_append_drop, List.take_append_drop]
theorem read_none {s : List UInt8} (h : readOk s = false) : readA s = [] ∧ readB s = [] := by
  unfold readA readB; rw [h]; exact ⟨rfl, rfl⟩
theorem readB_len (s : List UInt8) : (readB s).length ≤ s.length := by
  unfold readB; split
  · simp
  · simp
theorem readA_len (s : List UInt8) : (readA s).length ≤ s.length := by
  unfold readA; split
  · simp; omega
  · simp
end Go.Proofs.Ytmplabhofhllmaa
