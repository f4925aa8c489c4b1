/-
  THE PLAIN LAW OF TABLES: which bytes are a table's.
-/
import Derived.Test.YtikodobglhjoiaaTables1
namespace Go.Proofs.Ytikodobglhjoiaa
set_option linter.unusedVariables false

def partT (r : List UInt8) (i : Nat) : List UInt8 := (r.drop (24 * i)).take 24
def parsedT (r : List UInt8) (m : Nat) : List Ent := (List.range m).map fun i => getE (partT r i)
def partsOk (r : List UInt8) (m : Nat) : Bool := (List.range m).all fun i => okG (partT r i)
def manyT (s : List UInt8) : Nat := (s.length - 12) / 24
/-- Some bytes are a table's. -/
def tabOk (s : List UInt8) : Bool :=
  decide (12 ≤ s.length) && decide ((s.length - 12) % 24 = 0) && partsOk (s.drop 8) (manyT s) && mayT (parsedT (s.drop 8) (manyT s)) && (putT (parsedT (s.drop 8) (manyT s)) == s)
def tabL (s : List UInt8) : List Ent := if tabOk s then parsedT (s.drop 8) (manyT s) else []
def tabE (s : List UInt8) : Int := if tabOk s then 0 else 90
/-- What the program looks at. -/
def seenOk (s : List UInt8) : Bool :=
  openOk s && decide (8 ≤ (s.take (s.length - 4)).length) && ((s.take (s.length - 4)).take 4 == [112, 116, 97, 98]) &&
  decide (((s.take (s.length - 4)).drop 8).length = num (((s.take (s.length - 4)).drop 4).take 4) * 24) && partsOk ((s.take (s.length - 4)).drop 8) (num (((s.take (s.length - 4)).drop 4).take 4)) &&
  sortedE (parsedT ((s.take (s.length - 4)).drop 8) (num (((s.take (s.length - 4)).drop 4).take 4)))

theorem length_parsedT (r : List UInt8) (m : Nat) : (parsedT r m).length = m := by simp [parsedT]
theorem parsedT_succ (r : List UInt8) (m : Nat) : parsedT r (m + 1) = parsedT r m ++ [getE (partT r m)] := by
  unfold parsedT; rw [List.range_succ, List.map_append]; rfl
theorem partsOk_succ (r : List UInt8) (m : Nat) : partsOk r (m + 1) = (partsOk r m && okG (partT r m)) := by
  unfold partsOk; rw [List.range_succ, List.all_append]; simp
theorem parts_body {r : List UInt8} : ∀ {m : Nat}, partsOk r m = true → bodyT (parsedT r m) = r.take (24 * m) ∧ (parsedT r m).all mayE = true ∧ ∀ e ∈ parsedT r m, okE e := by
  intro m
  induction m with
  | zero => intro _; simp [parsedT, bodyT]
  | succ m ih =>
    intro h
    rw [partsOk_succ, Bool.and_eq_true] at h
    obtain ⟨h1, h2, h3⟩ := ih h.1
    obtain ⟨p1, p2, p3⟩ := put_getE h.2
    rw [parsedT_succ]
    refine ⟨?_, by rw [List.all_append, h2]; simp [p2], fun e he => ?_⟩
    · unfold bodyT at h1 ⊢
      rw [List.flatMap_append, h1]
      simp only [List.flatMap_cons, List.flatMap_nil, List.append_nil, p1]
      unfold partT
      rw [show 24 * (m + 1) = 24 * m + 24 from by omega, List.take_add]
    · rcases List.mem_append.1 he with h | h
      · exact h3 e h
      · rw [List.mem_singleton.1 h]; exact p3
theorem partT_append {r z : List UInt8} {i : Nat} (h : 24 * i + 24 ≤ r.length) : partT (r ++ z) i = partT r i := by
  unfold partT
  rw [List.drop_append_of_le_length (by omega), List.take_append_of_le_length (by simp; omega)]
theorem parsedT_append {r z : List UInt8} : ∀ {m : Nat}, 24 * m ≤ r.length → parsedT (r ++ z) m = parsedT r m ∧ partsOk (r ++ z) m = partsOk r m := by
  intro m
  induction m with
  | zero => intro _; exact ⟨rfl, rfl⟩
  | succ m ih =>
    intro h
    obtain ⟨h1, h2⟩ := ih (by omega)
    rw [parsedT_succ, parsedT_succ, partsOk_succ, partsOk_succ, h1, h2, partT_append (by omega)]
    exact ⟨rfl, rfl⟩
theorem length_lowL (n : Nat) : (lowL n).length = 4 := rfl
/-- What the program looks at is what the document says. -/
theorem seen_tab {s : List UInt8} (hlen : s.length ≤ 1000000000) : seenOk s = tabOk s ∧ (seenOk s = true → parsedT ((s.take (s.length - 4)).drop 8) (num (((s.take (s.length - 4)).drop 4).take 4)) = parsedT (s.drop 8) (manyT s)) := by
  have key : seenOk s = true → tabOk s = true ∧ parsedT ((s.take (s.length - 4)).drop 8) (num (((s.take (s.length - 4)).drop 4).take 4)) = parsedT (s.drop 8) (manyT s) := by
    intro h
    unfold seenOk at h
    simp only [Bool.and_eq_true, decide_eq_true_eq, beq_iff_eq] at h
    obtain ⟨⟨⟨⟨⟨h1, h2⟩, h3⟩, h4⟩, h5⟩, h6⟩ := h
    unfold openOk at h1
    simp only [Bool.and_eq_true, decide_eq_true_eq, beq_iff_eq] at h1
    obtain ⟨h1a, h1b⟩ := h1
    have hs : s = s.take (s.length - 4) ++ s.drop (s.length - 4) := (List.take_append_drop _ _).symm
    have htl : (s.take (s.length - 4)).length = s.length - 4 := by simp
    generalize s.take (s.length - 4) = t at *
    generalize s.drop (s.length - 4) = z at *
    have hzl : z.length = 4 := by rw [← h1b]; rfl
    have hm4 : ((t.drop 4).take 4).length = 4 := by simp; omega
    have hbe : be 4 (num ((t.drop 4).take 4)) = (t.drop 4).take 4 := by
      have := be_num ((t.drop 4).take 4)
      rw [hm4] at this; exact this
    generalize hm : num ((t.drop 4).take 4) = m at *
    have hd8 : (t.drop 8).length = t.length - 8 := by simp
    have hsl : s.length = t.length + 4 := by rw [hs, List.length_append, hzl]
    have hmany : manyT s = m := by unfold manyT; omega
    have hdrop : s.drop 8 = t.drop 8 ++ z := by rw [hs, List.drop_append_of_le_length h2]
    obtain ⟨pa, pb⟩ := parsedT_append (r := t.drop 8) (z := z) (m := m) (by omega)
    obtain ⟨q1, q2, q3⟩ := parts_body h5
    have hbody : bodyT (parsedT (t.drop 8) m) = t.drop 8 := by rw [q1]; exact List.take_of_length_le (by omega)
    have hraw : rawT (parsedT (t.drop 8) m) = t := by
      unfold rawT headT
      rw [length_parsedT, hbe, hbody, ← h3]
      rw [show t.drop 8 = (t.drop 4).drop 4 from by rw [List.drop_drop], List.append_assoc, List.take_append_drop, List.take_append_drop]
    have hmay : mayT (parsedT (t.drop 8) m) = true := by unfold mayT; rw [h6, q2]; rfl
    refine ⟨?_, by rw [hmany, hdrop, pa]⟩
    unfold tabOk
    rw [hmany, hdrop, pa, pb, h5, hmay]
    have hput : putT (parsedT (t.drop 8) m) = s := by
      unfold putT
      rw [hmay, if_pos rfl, hraw]
      unfold sealL
      rw [h1b]; exact hs.symm
    rw [hput]
    simp
    omega
  refine ⟨?_, fun h => (key h).2⟩
  rw [Bool.eq_iff_iff]
  refine ⟨fun h => (key h).1, fun h => ?_⟩
  unfold tabOk at h
  simp only [Bool.and_eq_true, decide_eq_true_eq, beq_iff_eq] at h
  obtain ⟨⟨⟨⟨h1, h2⟩, h3⟩, h4⟩, h5⟩ := h
  have hL := length_parsedT (s.drop 8) (manyT s)
  obtain ⟨q1, q2, q3⟩ := parts_body h3
  have hmany : 24 * manyT s = s.length - 12 := by unfold manyT; omega
  have hmle : manyT s ≤ 100000000 := by omega
  have hsort : sortedE (parsedT (s.drop 8) (manyT s)) = true := by unfold mayT at h4; rw [Bool.and_eq_true] at h4; exact h4.1
  have hput : putT (parsedT (s.drop 8) (manyT s)) = sealL (rawT (parsedT (s.drop 8) (manyT s))) := by unfold putT; rw [h4, if_pos rfl]
  rw [hput] at h5
  have hbl := length_bodyT q2
  rw [hL] at hbl
  have hraw : rawT (parsedT (s.drop 8) (manyT s)) = headT (manyT s) ++ bodyT (parsedT (s.drop 8) (manyT s)) := by unfold rawT; rw [hL]
  generalize hB : bodyT (parsedT (s.drop 8) (manyT s)) = B at *
  have hhl : (headT (manyT s)).length = 8 := by simp [headT]
  have htl : (headT (manyT s) ++ B).length = s.length - 4 := by rw [List.length_append, hhl, hbl]; omega
  have ht : s.take (s.length - 4) = headT (manyT s) ++ B := by
    conv => lhs; arg 2; rw [← h5]
    unfold sealL
    rw [hraw, ← htl, List.take_left]
  have hz : s.drop (s.length - 4) = lowL (sumL (headT (manyT s) ++ B)) := by
    conv => lhs; arg 2; rw [← h5]
    unfold sealL
    rw [hraw, ← htl, List.drop_left]
  have h8 : (headT (manyT s) ++ B).drop 8 = B := by rw [← hhl, List.drop_left]
  have h44 : ((headT (manyT s) ++ B).drop 4).take 4 = be 4 (manyT s) := by
    unfold headT
    rw [List.append_assoc, List.drop_left' (by rfl), List.take_left' (by simp)]
  have hnum : num (be 4 (manyT s)) = manyT s := by rw [num_be]; exact Nat.mod_eq_of_lt (by omega)
  have hdrop : s.drop 8 = B ++ s.drop (s.length - 4) := by
    conv => lhs; rw [← List.take_append_drop (s.length - 4) s]
    rw [ht, List.append_assoc, ← hhl, List.drop_left]
  obtain ⟨pa, pb⟩ := parsedT_append (r := B) (z := s.drop (s.length - 4)) (m := manyT s) (by omega)
  rw [← hdrop] at pa pb
  unfold seenOk openOk
  rw [ht, h8, h44, hnum, ← pb, ← pa, h3, hsort, hz, hbl, htl]
  have e1 : (headT (manyT s) ++ B).take 4 = [112, 116, 97, 98] := by unfold headT; rw [List.append_assoc, List.take_left' (by rfl)]
  rw [e1]
  simp
  omega
end Go.Proofs.Ytikodobglhjoiaa
