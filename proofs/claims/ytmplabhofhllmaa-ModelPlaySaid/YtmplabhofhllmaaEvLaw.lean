/-
  THE PLAIN LAW OF EVENTS: what they are, their bytes, what is read. No program in sight.
-/
import Derived.Test.YtmplabhofhllmaaTextLaw
namespace Go.Proofs.Ytmplabhofhllmaa
set_option linter.unusedVariables false

/-- An event: its type, its data, its weight's bits. -/
abbrev Ev := ByteArray × ByteArray × Nat
def okV (e : Ev) : Prop := e.1.size ≤ Go.maxLen ∧ e.2.1.size ≤ Go.maxLen ∧ e.2.2 < 18446744073709551616
/-- What is wrong with an event. -/
def checkV (e : Ev) : Int := if e.1.size = 0 then 2 else if 16 < e.1.size ∨ 200 < e.2.1.size then 3 else 0
def rawV (e : Ev) : List UInt8 := textL (lb e.1) ++ (textL (lb e.2.1) ++ be 8 e.2.2)
def bytesV (e : Ev) : List UInt8 := if checkV e = 0 then rawV e else []
def ev0 : Ev := (ByteArray.empty, ByteArray.empty, 0)
/-- What is read. -/
def lastV (s : List UInt8) : List UInt8 := readB (readB s)
def gotV (s : List UInt8) : Ev := (bs (readA s), bs (readA (readB s)), getN ((lastV s).take 8))
def fitV (s : List UInt8) : Bool := readOk s && readOk (readB s) && decide (8 ≤ (lastV s).length)
def readOkV (s : List UInt8) : Bool := fitV s && decide (checkV (gotV s) = 0)
def readV (s : List UInt8) : Ev := if readOkV s then gotV s else ev0
def restV (s : List UInt8) : List UInt8 := if readOkV s then (lastV s).drop 8 else []

theorem check_parts {e : Ev} (h : checkV e = 0) : 0 < e.1.size ∧ e.1.size ≤ 16 ∧ e.2.1.size ≤ 200 := by
  unfold checkV at h
  by_cases h1 : e.1.size = 0
  · rw [if_pos h1] at h; omega
  · rw [if_neg h1] at h
    by_cases h2 : 16 < e.1.size ∨ 200 < e.2.1.size
    · rw [if_pos h2] at h; omega
    · omega
theorem check_three (e : Ev) : checkV e = 0 ∨ checkV e = 2 ∨ checkV e = 3 := by
  unfold checkV; split
  · exact .inr (.inl rfl)
  · split
    · exact .inr (.inr rfl)
    · exact .inl rfl
theorem rawV_length {e : Ev} (h1 : e.1.size ≤ 65535) (h2 : e.2.1.size ≤ 65535) : (rawV e).length = e.1.size + e.2.1.size + 12 := by
  unfold rawV
  rw [List.length_append, List.length_append, textL_length _ (by rw [length_lb]; exact h1), textL_length _ (by rw [length_lb]; exact h2), be_length, length_lb, length_lb]; omega
theorem getN_be8 (n : Nat) (h : n < 18446744073709551616) : getN (be 8 n) = n := by
  unfold getN
  rw [List.take_of_length_le (by rw [be_length]; omega), num_be]
  exact Nat.mod_eq_of_lt h
theorem be_getN8 (l : List UInt8) (h : l.length = 8) : be 8 (getN l) = l := by
  unfold getN
  rw [List.take_of_length_le (by omega)]
  have := be_num l
  rwa [h] at this
theorem last_raw {e : Ev} (h1 : e.1.size ≤ 65535) (h2 : e.2.1.size ≤ 65535) (r : List UInt8) :
    readOk (rawV e ++ r) = true ∧ readA (rawV e ++ r) = lb e.1 ∧ readOk (readB (rawV e ++ r)) = true ∧ readA (readB (rawV e ++ r)) = lb e.2.1 ∧ lastV (rawV e ++ r) = be 8 e.2.2 ++ r := by
  have l1 : (lb e.1).length ≤ 65535 := by rw [length_lb]; exact h1
  have l2 : (lb e.2.1).length ≤ 65535 := by rw [length_lb]; exact h2
  unfold lastV rawV
  rw [List.append_assoc, List.append_assoc, readB_text _ _ l1, readA_text _ _ l1, readOk_text _ _ l1, readB_text _ _ l2, readA_text _ _ l2, readOk_text _ _ l2]
  exact ⟨rfl, rfl, rfl, rfl, rfl⟩
/-- What is put is read, whatever stands behind it. -/
theorem put_read {e : Ev} (h : checkV e = 0) (h64 : e.2.2 < 18446744073709551616) (r : List UInt8) : readOkV (bytesV e ++ r) = true ∧ readV (bytesV e ++ r) = e ∧ restV (bytesV e ++ r) = r := by
  obtain ⟨c1, c2, c3⟩ := check_parts h
  obtain ⟨g1, g2, g3, g4, g5⟩ := last_raw (e := e) (by omega) (by omega) r
  have hb : bytesV e = rawV e := by unfold bytesV; rw [if_pos h]
  have hg : gotV (rawV e ++ r) = e := by
    unfold gotV
    rw [g2, g4, g5, bs_lb, bs_lb, List.take_left' (be_length 8 _), getN_be8 _ h64]
  have ho : readOkV (rawV e ++ r) = true := by
    unfold readOkV fitV
    rw [g1, g3, g5, hg, h]
    simp
  rw [hb]
  refine ⟨ho, ?_, ?_⟩
  · unfold readV; rw [ho, if_pos rfl, hg]
  · unfold restV; rw [ho, if_pos rfl, g5, List.drop_left' (be_length 8 _)]
/-- Of what is cut off nothing is read. -/
theorem cut_read {e : Ev} (h : checkV e = 0) (j : Nat) (hj : j < (bytesV e).length) : readOkV ((bytesV e).take j) = false := by
  obtain ⟨c1, c2, c3⟩ := check_parts h
  have hb : bytesV e = rawV e := by unfold bytesV; rw [if_pos h]
  rw [hb] at hj ⊢
  rw [rawV_length (by omega) (by omega)] at hj
  have l1 : (lb e.1).length ≤ 65535 := by rw [length_lb]; omega
  have l2 : (lb e.2.1).length ≤ 65535 := by rw [length_lb]; omega
  have t1 : (textL (lb e.1)).length = e.1.size + 2 := by rw [textL_length _ l1, length_lb]
  have t2 : (textL (lb e.2.1)).length = e.2.1.size + 2 := by rw [textL_length _ l2, length_lb]
  have key : fitV ((rawV e).take j) = false := by
    unfold fitV rawV
    by_cases hj1 : j < e.1.size + 2
    · rw [List.take_append_of_le_length (by omega), readOk_cut _ _ l1 (by rw [length_lb]; exact hj1)]; rfl
    · have e1 : (textL (lb e.1) ++ (textL (lb e.2.1) ++ be 8 e.2.2)).take j = textL (lb e.1) ++ (textL (lb e.2.1) ++ be 8 e.2.2).take (j - (e.1.size + 2)) := by
        rw [List.take_append, List.take_of_length_le (by omega), t1]
      rw [e1]
      unfold lastV
      rw [readB_text _ _ l1]
      by_cases hj2 : j - (e.1.size + 2) < e.2.1.size + 2
      · rw [List.take_append_of_le_length (by omega), readOk_cut _ _ l2 (by rw [length_lb]; exact hj2)]; simp
      · have e2 : (textL (lb e.2.1) ++ be 8 e.2.2).take (j - (e.1.size + 2)) = textL (lb e.2.1) ++ (be 8 e.2.2).take (j - (e.1.size + 2) - (e.2.1.size + 2)) := by
          rw [List.take_append, List.take_of_length_le (by omega), t2]
        rw [e2, readB_text _ _ l2, decide_eq_false (by rw [List.length_take, be_length]; omega), Bool.and_false]
  unfold readOkV; rw [key]; rfl
theorem none_read {s : List UInt8} (h : readOkV s = false) : readV s = ev0 ∧ restV s = [] := by
  unfold readV restV; rw [h]; exact ⟨rfl, rfl⟩
/-- What is read has the bytes that stood there, and may be. -/
theorem read_put {s : List UInt8} (h : readOkV s = true) : checkV (readV s) = 0 ∧ bytesV (readV s) ++ restV s = s := by
  have hv : readV s = gotV s := by unfold readV; rw [h, if_pos rfl]
  have hr : restV s = (lastV s).drop 8 := by unfold restV; rw [h, if_pos rfl]
  have h' := h
  unfold readOkV fitV at h'
  simp only [Bool.and_eq_true, decide_eq_true_eq] at h'
  obtain ⟨⟨⟨h1, h2⟩, h3⟩, h4⟩ := h'
  rw [hv, hr]
  refine ⟨h4, ?_⟩
  unfold bytesV
  rw [if_pos h4]
  unfold rawV gotV
  simp only [lb_bs]
  obtain ⟨b1, b2⟩ := text_back h1
  obtain ⟨b3, b4⟩ := text_back h2
  rw [be_getN8 _ (by rw [List.length_take]; omega), List.append_assoc, List.append_assoc, List.take_append_drop]
  unfold lastV
  rw [b3, b1]
theorem okV_got (s : List UInt8) (hs : s.length ≤ Go.maxLen) : okV (gotV s) := by
  have h1 := readA_len s
  have h2 := readA_len (readB s)
  have h3 := readB_len s
  refine ⟨by unfold gotV; simp only [size_bs]; omega, by unfold gotV; simp only [size_bs]; omega, ?_⟩
  exact getN_lt _
theorem okV_read (s : List UInt8) (hs : s.length ≤ Go.maxLen) : okV (readV s) := by
  unfold readV; split
  · exact okV_got s hs
  · exact ⟨Nat.zero_le _, Nat.zero_le _, by decide⟩
theorem bytesV_length_le (e : Ev) : (bytesV e).length ≤ 300 := by
  unfold bytesV
  split
  · next h =>
    obtain ⟨c1, c2, c3⟩ := check_parts h
    rw [rawV_length (by omega) (by omega)]; omega
  · simp
end Go.Proofs.Ytmplabhofhllmaa
