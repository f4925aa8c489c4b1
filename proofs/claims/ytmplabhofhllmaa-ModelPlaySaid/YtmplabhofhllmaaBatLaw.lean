/-
  THE PLAIN LAW OF BATCHES: what they are, their bytes, what is got. No program in sight.
-/
import Derived.Test.YtmplabhofhllmaaEvLaw
namespace Go.Proofs.Ytmplabhofhllmaa
set_option linter.unusedVariables false

/-- A batch: its stream, its first version, its events. -/
abbrev Bat := ByteArray × Int × List Ev
def okB (b : Bat) : Prop := b.1.size ≤ Go.maxLen ∧ (-9223372036854775808 ≤ b.2.1 ∧ b.2.1 ≤ 9223372036854775807) ∧ ∀ e ∈ b.2.2, okV e
/-- What is wrong with the first event that may not be. -/
def badL : List Ev → Int
  | [] => 0
  | e :: l => if checkV e = 0 then badL l else checkV e
/-- What is wrong with a batch. -/
def checkB (b : Bat) : Int :=
  if b.1.size = 0 ∨ b.2.2.length = 0 then 2 else if 32 < b.1.size ∨ 8 < b.2.2.length then 3
  else if b.2.1 < 0 ∨ 1073741824 - (b.2.2.length : Int) < b.2.1 then 2 else badL b.2.2
theorem badL_append (a b : List Ev) : badL (a ++ b) = if badL a = 0 then badL b else badL a := by
  induction a with
  | nil => rfl
  | cons e a ih =>
    have hc : ∀ l : List Ev, badL (e :: l) = if checkV e = 0 then badL l else checkV e := fun _ => rfl
    rw [List.cons_append, hc, hc]
    by_cases h : checkV e = 0
    · simp only [h, if_true]; exact ih
    · simp only [h, if_false]
theorem badL_more {l : List Ev} {k : Nat} {e : Ev} (h0 : badL (l.take k) = 0) (h : l[k]? = some e) : (checkV e = 0 → badL (l.take (k + 1)) = 0) ∧ (checkV e ≠ 0 → badL l = checkV e) := by
  constructor
  · intro hc
    rw [List.take_add_one, h, badL_append, if_pos h0]
    simp [badL, hc]
  · intro hc
    have hlt : k < l.length := (List.getElem?_eq_some_iff.1 h).1
    have hs : l = l.take k ++ e :: l.drop (k + 1) := by
      have : l.drop k = e :: l.drop (k + 1) := by
        rw [List.drop_eq_getElem_cons hlt]
        rw [List.getElem?_eq_getElem hlt, Option.some.injEq] at h
        rw [h]
      rw [← this, List.take_append_drop]
    rw [hs, badL_append, if_pos h0]
    simp [badL, hc]
theorem badL_three (l : List Ev) : badL l = 0 ∨ badL l = 2 ∨ badL l = 3 := by
  induction l with
  | nil => exact .inl rfl
  | cons e l ih =>
    unfold badL
    split
    · exact ih
    · exact check_three e
theorem checkB_three (b : Bat) : checkB b = 0 ∨ checkB b = 2 ∨ checkB b = 3 := by
  unfold checkB
  split
  · exact .inr (.inl rfl)
  · split
    · exact .inr (.inr rfl)
    · split
      · exact .inr (.inl rfl)
      · exact badL_three _
theorem badL_zero {l : List Ev} (h : badL l = 0) : ∀ e ∈ l, checkV e = 0 := by
  induction l with
  | nil => simp
  | cons e l ih =>
    unfold badL at h
    by_cases hc : checkV e = 0
    · rw [if_pos hc] at h
      intro x hx
      rcases List.mem_cons.1 hx with rfl | hx
      · exact hc
      · exact ih h x hx
    · rw [if_neg hc] at h; exact absurd h hc
theorem badL_all {l : List Ev} (h : ∀ e ∈ l, checkV e = 0) : badL l = 0 := by
  induction l with
  | nil => rfl
  | cons e l ih =>
    unfold badL
    rw [if_pos (h e (by simp)), ih fun x hx => h x (by simp [hx])]
theorem checkB_parts {b : Bat} (h : checkB b = 0) : 0 < b.1.size ∧ b.1.size ≤ 32 ∧ 0 < b.2.2.length ∧ b.2.2.length ≤ 8 ∧ 0 ≤ b.2.1 ∧ b.2.1 ≤ 1073741824 - (b.2.2.length : Int) ∧ ∀ e ∈ b.2.2, checkV e = 0 := by
  unfold checkB at h
  split at h
  · omega
  · split at h
    · omega
    · split at h
      · omega
      · exact ⟨by omega, by omega, by omega, by omega, by omega, by omega, badL_zero h⟩
theorem checkB_mk {b : Bat} (h1 : 0 < b.1.size ∧ b.1.size ≤ 32) (h2 : 0 < b.2.2.length ∧ b.2.2.length ≤ 8) (h3 : 0 ≤ b.2.1 ∧ b.2.1 ≤ 1073741824 - (b.2.2.length : Int)) (h : ∀ e ∈ b.2.2, checkV e = 0) : checkB b = 0 := by
  unfold checkB
  rw [if_neg (by omega), if_neg (by omega), if_neg (by omega), badL_all h]

/-- The bytes of a batch. -/
def evsB (l : List Ev) : List UInt8 := l.flatMap bytesV
def headB (b : Bat) : List UInt8 := textL (lb b.1) ++ (be 8 b.2.1.toNat ++ [UInt8.ofNat b.2.2.length])
def rawB (b : Bat) : List UInt8 := headB b ++ evsB b.2.2
def putB (b : Bat) : List UInt8 := if checkB b = 0 then rawB b else []
theorem evsB_succ {l : List Ev} {k : Nat} {e : Ev} (h : l[k]? = some e) : evsB (l.take (k + 1)) = evsB (l.take k) ++ bytesV e := by
  unfold evsB
  rw [List.take_add_one, h, List.flatMap_append]; simp
theorem evsB_len {l : List Ev} (n : Nat) (h : l.length ≤ n) : (evsB l).length ≤ n * 300 := by
  induction l generalizing n with
  | nil => simp [evsB]
  | cons e l ih =>
    have h1 := bytesV_length_le e
    have h2 := ih (n - 1) (by simp at h; omega)
    unfold evsB at h2 ⊢
    rw [List.flatMap_cons, List.length_append]
    simp at h
    omega
theorem evsB_len2 {l : List Ev} (h : ∀ e ∈ l, checkV e = 0) : (evsB l).length ≤ l.length * 228 := by
  induction l with
  | nil => simp [evsB]
  | cons e l ih =>
    have h2 := ih fun x hx => h x (by simp [hx])
    obtain ⟨c1, c2, c3⟩ := check_parts (h e (by simp))
    have h1 : (bytesV e).length ≤ 228 := by
      unfold bytesV; rw [if_pos (h e (by simp)), rawV_length (by omega) (by omega)]; omega
    unfold evsB at h2 ⊢
    rw [List.flatMap_cons, List.length_append, List.length_cons]
    omega
theorem putB_len {b : Bat} (h : checkB b = 0) : 0 < (putB b).length ∧ (putB b).length ≤ 2000 := by
  obtain ⟨c1, c2, c3, c4, c5, c6, c7⟩ := checkB_parts h
  have h2 := evsB_len2 c7
  unfold putB rawB headB
  rw [if_pos h, List.length_append, List.length_append, List.length_append, be_length, textL_length _ (by rw [length_lb]; omega), length_lb]
  simp only [List.length_singleton]
  omega

/-- What is got: events, one by one. -/
def evsR : Nat → List UInt8 → List UInt8
  | 0, r => r
  | k + 1, r => restV (evsR k r)
def evsL : Nat → List UInt8 → List Ev
  | 0, _ => []
  | k + 1, r => evsL k r ++ [readV (evsR k r)]
def evsOk : Nat → List UInt8 → Bool
  | 0, _ => true
  | k + 1, r => evsOk k r && readOkV (evsR k r)
theorem evsL_length (k : Nat) (r : List UInt8) : (evsL k r).length = k := by
  induction k with
  | zero => rfl
  | succ k ih => rw [evsL, List.length_append, ih]; rfl
theorem restV_len (s : List UInt8) : (restV s).length ≤ s.length := by
  unfold restV
  split
  · have h1 := readB_len s
    have h2 := readB_len (readB s)
    unfold lastV
    rw [List.length_drop]; omega
  · simp
theorem evsR_len (k : Nat) (r : List UInt8) : (evsR k r).length ≤ r.length := by
  induction k with
  | zero => exact Nat.le_refl _
  | succ k ih => rw [evsR]; have := restV_len (evsR k r); omega
theorem okV_evs (k : Nat) (r : List UInt8) (hr : r.length ≤ Go.maxLen) : ∀ e ∈ evsL k r, okV e := by
  induction k with
  | zero => simp [evsL]
  | succ k ih =>
    intro e he
    rw [evsL] at he
    rcases List.mem_append.1 he with h | h
    · exact ih e h
    · rw [List.mem_singleton.1 h]
      exact okV_read _ (Nat.le_trans (evsR_len k r) hr)
theorem evs_back (k : Nat) (r : List UInt8) (h : evsOk k r = true) : evsB (evsL k r) ++ evsR k r = r ∧ ∀ e ∈ evsL k r, checkV e = 0 := by
  induction k with
  | zero => simp [evsL, evsR, evsB]
  | succ k ih =>
    rw [evsOk, Bool.and_eq_true] at h
    obtain ⟨h1, h2⟩ := ih h.1
    obtain ⟨g1, g2⟩ := read_put h.2
    refine ⟨?_, fun e he => ?_⟩
    · rw [evsL, evsR]
      unfold evsB at h1 ⊢
      rw [List.flatMap_append]
      simp only [List.flatMap_cons, List.flatMap_nil, List.append_nil]
      rw [List.append_assoc, g2, h1]
    · rw [evsL] at he
      rcases List.mem_append.1 he with h | h
      · exact h2 e h
      · rw [List.mem_singleton.1 h]; exact g1
theorem evs_mono {k m : Nat} {r : List UInt8} (h : evsOk m r = true) (hk : k ≤ m) : evsOk k r = true := by
  induction m with
  | zero => obtain rfl : k = 0 := by omega
            rfl
  | succ m ih =>
    rw [evsOk, Bool.and_eq_true] at h
    rcases Nat.lt_or_ge k (m + 1) with h1 | h1
    · exact ih h.1 (by omega)
    · obtain rfl : k = m + 1 := by omega
      rw [evsOk, h.1, h.2]; rfl
theorem evs_put (l : List Ev) (z : List UInt8) (h : ∀ e ∈ l, checkV e = 0) (ho : ∀ e ∈ l, okV e) : ∀ k, k ≤ l.length → evsOk k (evsB l ++ z) = true ∧ evsL k (evsB l ++ z) = l.take k ∧ evsR k (evsB l ++ z) = evsB (l.drop k) ++ z := by
  intro k
  induction k with
  | zero => intro _; simp [evsOk, evsL, evsR]
  | succ k ih =>
    intro hk
    obtain ⟨h1, h2, h3⟩ := ih (by omega)
    have hlt : k < l.length := by omega
    have hd : l.drop k = l[k] :: l.drop (k + 1) := List.drop_eq_getElem_cons hlt
    have hb : evsB (l.drop k) ++ z = bytesV l[k] ++ (evsB (l.drop (k + 1)) ++ z) := by
      rw [hd]; unfold evsB; rw [List.flatMap_cons, List.append_assoc]
    obtain ⟨p1, p2, p3⟩ := put_read (h _ (List.getElem_mem hlt)) (ho _ (List.getElem_mem hlt)).2.2 (evsB (l.drop (k + 1)) ++ z)
    rw [evsOk, evsL, evsR, h1, h2, h3, hb, p1, p2, p3]
    exact ⟨rfl, by rw [List.take_add_one, List.getElem?_eq_getElem hlt]; rfl, rfl⟩

def frontOk (s : List UInt8) : Bool := readOk s && decide (9 ≤ (readB s).length) && decide (getN ((readB s).take 8) ≤ 1073741824)
def manyB (s : List UInt8) : Nat := (((readB s)[8]?).getD 0).toNat
def pastB (s : List UInt8) : List UInt8 := (readB s).drop 9
def gotB (s : List UInt8) : Bat := (bs (readA s), ((getN ((readB s).take 8) : Nat) : Int), evsL (manyB s) (pastB s))
/-- What the program looks at. -/
def seenB (s : List UInt8) : Bool := frontOk s && evsOk (manyB s) (pastB s) && (evsR (manyB s) (pastB s) == []) && decide (checkB (gotB s) = 0)
/-- What the document says. -/
def docB (s : List UInt8) : Bool := frontOk s && evsOk (manyB s) (pastB s) && decide (checkB (gotB s) = 0) && (putB (gotB s) == s)
theorem front_back {s : List UInt8} (h : frontOk s = true) (he : evsOk (manyB s) (pastB s) = true) : rawB (gotB s) ++ evsR (manyB s) (pastB s) = s := by
  unfold frontOk at h
  simp only [Bool.and_eq_true, decide_eq_true_eq] at h
  obtain ⟨⟨h1, h2⟩, h3⟩ := h
  obtain ⟨b1, b2⟩ := evs_back _ _ he
  obtain ⟨t1, -⟩ := text_back h1
  have hl8 : ((readB s).take 8).length = 8 := by rw [List.length_take]; omega
  have h8 : (readB s)[8]? = some (readB s)[8] := List.getElem?_eq_getElem (by omega)
  have hm : UInt8.ofNat (manyB s) = (readB s)[8] := by unfold manyB; rw [h8]; simp
  have hd : (readB s).drop 8 = (readB s)[8] :: (readB s).drop 9 := List.drop_eq_getElem_cons (by omega)
  unfold rawB headB gotB
  simp only [lb_bs, Int.toNat_natCast, evsL_length]
  rw [be_getN8 _ hl8, hm, List.append_assoc, List.append_assoc, List.append_assoc, b1]
  unfold pastB
  rw [List.singleton_append, ← hd, List.take_append_drop, t1]
theorem seen_doc (s : List UInt8) : docB s = seenB s := by
  unfold docB seenB
  rcases h1 : frontOk s with _ | _
  · simp
  · rcases h2 : evsOk (manyB s) (pastB s) with _ | _
    · simp
    · simp only [Bool.true_and]
      by_cases hc : checkB (gotB s) = 0
      · rw [decide_eq_true hc, Bool.true_and, Bool.and_true]
        have hb := front_back h1 h2
        have hp : putB (gotB s) = rawB (gotB s) := by unfold putB; rw [if_pos hc]
        rw [hp, Bool.eq_iff_iff, beq_iff_eq, beq_iff_eq]
        constructor
        · intro h
          have := hb.trans h.symm
          have h3 := congrArg List.length this
          rw [List.length_append] at h3
          exact List.eq_nil_of_length_eq_zero (by omega)
        · intro h
          rw [h, List.append_nil] at hb
          exact hb
      · rw [decide_eq_false hc]; simp
def batV (s : List UInt8) : Bat := if seenB s then gotB s else (ByteArray.empty, 0, [])
def batE (s : List UInt8) : Int := if seenB s then 0 else 10
/-- What is put is got, and nothing that has something behind it. -/
theorem put_got {b : Bat} (h : checkB b = 0) (ho : okB b) (z : List UInt8) : frontOk (rawB b ++ z) = true ∧ evsOk (manyB (rawB b ++ z)) (pastB (rawB b ++ z)) = true ∧ gotB (rawB b ++ z) = b ∧ evsR (manyB (rawB b ++ z)) (pastB (rawB b ++ z)) = z := by
  obtain ⟨c1, c2, c3, c4, c5, c6, c7⟩ := checkB_parts h
  obtain ⟨o1, o2, o3⟩ := ho
  have l1 : (lb b.1).length ≤ 65535 := by rw [length_lb]; omega
  have e1 : rawB b ++ z = textL (lb b.1) ++ (be 8 b.2.1.toNat ++ ([UInt8.ofNat b.2.2.length] ++ (evsB b.2.2 ++ z))) := by
    unfold rawB headB
    simp only [List.append_assoc]
  have hok : readOk (rawB b ++ z) = true := by rw [e1]; exact readOk_text _ _ l1
  have hA : readA (rawB b ++ z) = lb b.1 := by rw [e1]; exact readA_text _ _ l1
  have hB : readB (rawB b ++ z) = be 8 b.2.1.toNat ++ ([UInt8.ofNat b.2.2.length] ++ (evsB b.2.2 ++ z)) := by rw [e1]; exact readB_text _ _ l1
  have h8 : (readB (rawB b ++ z)).take 8 = be 8 b.2.1.toNat := by rw [hB]; exact List.take_left' (be_length 8 _)
  have hn : getN ((readB (rawB b ++ z)).take 8) = b.2.1.toNat := by rw [h8]; exact getN_be8 _ (by omega)
  have hm : manyB (rawB b ++ z) = b.2.2.length := by
    unfold manyB
    rw [hB, List.getElem?_append_right (by rw [be_length]; exact Nat.le_refl _), be_length]
    simp
    omega
  have hp : pastB (rawB b ++ z) = evsB b.2.2 ++ z := by
    unfold pastB
    rw [hB, ← List.append_assoc, List.drop_left' (by rw [List.length_append, be_length]; rfl)]
  obtain ⟨p1, p2, p3⟩ := evs_put b.2.2 z c7 o3 b.2.2.length (Nat.le_refl _)
  have hl : 9 ≤ (readB (rawB b ++ z)).length := by
    rw [hB, List.length_append, List.length_append, be_length, List.length_singleton]; omega
  refine ⟨?_, by rw [hm, hp]; exact p1, ?_, by rw [hm, hp, p3]; simp [evsB]⟩
  · unfold frontOk
    rw [hok, hn, decide_eq_true hl, decide_eq_true (by omega)]; rfl
  · unfold gotB
    rw [hA, hn, hm, hp, p2, List.take_length, bs_lb]
    obtain ⟨x, y, l⟩ := b
    simp only [] at c5 ⊢
    rw [Int.toNat_of_nonneg c5]
theorem seen_put {b : Bat} (h : checkB b = 0) (ho : okB b) (z : List UInt8) : seenB (putB b ++ z) = (z == []) := by
  have hp : putB b = rawB b := by unfold putB; rw [if_pos h]
  obtain ⟨g1, g2, g3, g4⟩ := put_got h ho z
  unfold seenB
  rw [hp, g1, g2, g3, g4, h]
  simp
theorem got_put {b : Bat} (h : checkB b = 0) (ho : okB b) : batV (putB b) = b ∧ batE (putB b) = 0 := by
  have hs := seen_put h ho []
  rw [List.append_nil] at hs
  have hp : putB b = rawB b := by unfold putB; rw [if_pos h]
  obtain ⟨-, -, g3, -⟩ := put_got h ho []
  rw [List.append_nil] at g3
  unfold batV batE
  rw [hs]
  exact ⟨by rw [if_pos (by rfl), hp]; exact g3, rfl⟩
theorem okB_got {s : List UInt8} (hs : s.length ≤ Go.maxLen) (h : seenB s = true) : okB (gotB s) := by
  have h1 := readA_len s
  have h2 := readB_len s
  have h3 : (pastB s).length ≤ Go.maxLen := by unfold pastB; rw [List.length_drop]; omega
  unfold seenB at h
  simp only [Bool.and_eq_true, decide_eq_true_eq] at h
  obtain ⟨-, -, -, -, c5, c6, -⟩ := checkB_parts h.2
  refine ⟨by unfold gotB; simp only [size_bs]; omega, by omega, ?_⟩
  unfold gotB
  exact okV_evs _ _ h3
/-- What is got may be, and is put as the bytes that it was got from. -/
theorem got_form {s : List UInt8} (h : seenB s = true) : checkB (batV s) = 0 ∧ putB (batV s) = s := by
  have hv : batV s = gotB s := by unfold batV; rw [h, if_pos rfl]
  have hd := seen_doc s
  rw [h] at hd
  unfold docB at hd
  simp only [Bool.and_eq_true, decide_eq_true_eq, beq_iff_eq] at hd
  rw [hv]
  exact ⟨hd.1.2, hd.2⟩
/-- Of what is cut off nothing is got. -/
theorem cut_got {b : Bat} (h : checkB b = 0) (ho : okB b) (j : Nat) (hj : j < (putB b).length) (hl : (putB b).length ≤ Go.maxLen) : seenB ((putB b).take j) = false := by
  rcases hs : seenB ((putB b).take j) with _ | _
  · rfl
  · exfalso
    obtain ⟨f1, f2⟩ := got_form hs
    have hv : batV ((putB b).take j) = gotB ((putB b).take j) := by unfold batV; rw [hs, if_pos rfl]
    have hok : okB (batV ((putB b).take j)) := by rw [hv]; exact okB_got (by rw [List.length_take]; omega) hs
    have h1 := seen_put f1 hok ((putB b).drop j)
    rw [f2, List.take_append_drop] at h1
    have h2 := seen_put h ho []
    rw [List.append_nil, h1] at h2
    have h3 : (putB b).drop j = [] := by simpa using h2
    have h4 := congrArg List.length h3
    rw [List.length_drop] at h4
    simp at h4; omega
end Go.Proofs.Ytmplabhofhllmaa
