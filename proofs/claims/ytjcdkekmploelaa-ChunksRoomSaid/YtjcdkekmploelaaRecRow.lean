/-
  Records in a row, as plain lists of bytes: each is found from both ends, whatever stands around it. No program in sight.
-/
import Derived.Test.YtjcdkekmploelaaRec
namespace Go.Proofs.Ytjcdkekmploelaa
open Go.RowKit
set_option linter.unusedVariables false

theorem numAt_be (a b : List UInt8) (n : Nat) (h : n < 4294967296) : numAt (a ++ (be 4 n ++ b)) a.length = n := by
  unfold numAt
  rw [List.drop_left, List.take_append_of_le_length (by simp), List.take_of_length_le (by simp)]
  rw [num_be]; exact Nat.mod_eq_of_lt (by omega)
theorem recL_front (p : List UInt8) : ∃ c, c.length = 4 ∧ recL p = be 4 p.length ++ (p ++ (c ++ be 4 p.length)) := by
  refine ⟨(sealL (be 4 p.length ++ p)).drop (p.length + 4), ?_, ?_⟩
  · rw [List.length_drop, sealL_length]; simp
    try omega
  · have h : sealL (be 4 p.length ++ p) = (be 4 p.length ++ p) ++ (sealL (be 4 p.length ++ p)).drop (p.length + 4) := by
      conv => lhs; rw [← List.take_append_drop (p.length + 4) (sealL (be 4 p.length ++ p))]
      congr 1
      unfold sealL
      rw [List.take_append_of_le_length (by simp; omega)]
      exact List.take_of_length_le (by simp; omega)
    show sealL (be 4 p.length ++ p) ++ be 4 p.length = _
    conv => lhs; rw [h]
    simp only [List.append_assoc]
theorem recAt_recL (a p b : List UInt8) (hp : p.length ≤ 2000) :
    numAt (a ++ (recL p ++ b)) a.length = p.length ∧ recAt (a ++ (recL p ++ b)) a.length = true ∧ ((a ++ (recL p ++ b)).drop (a.length + 4)).take p.length = p := by
  obtain ⟨c, hc, hr⟩ := recL_front p
  have hn : numAt (a ++ (recL p ++ b)) a.length = p.length := by
    rw [hr, List.append_assoc]; exact numAt_be _ _ _ (by omega)
  have hd : ((a ++ (recL p ++ b)).drop (a.length + 4)).take p.length = p := by
    rw [← List.drop_drop, List.drop_left, hr]
    have : (be 4 p.length).length = 4 := by simp
    rw [List.append_assoc]
    conv => lhs; arg 2; arg 1; rw [← this]
    rw [List.drop_left, List.append_assoc, List.take_left]
  refine ⟨hn, ?_, hd⟩
  unfold recAt
  rw [hn, hd, List.drop_left]
  have hl : (recL p).length = p.length + 12 := length_recL p
  rw [← hl, List.take_left]
  simp only [List.length_append, hl]
  rw [decide_eq_true (by omega), decide_eq_true (by omega), decide_eq_true (by omega)]
  simp
theorem gOk_recL (a p b : List UInt8) (hp : p.length ≤ 2000) : gOk (a ++ (recL p ++ b)) (a.length : Int) = true := by
  unfold gOk
  rw [decide_eq_true (by omega), Bool.true_and, Int.toNat_natCast]
  exact (recAt_recL a p b hp).2.1
theorem gA_recL (a p b : List UInt8) (hp : p.length ≤ 2000) : gA (a ++ (recL p ++ b)) (a.length : Int) = p := by
  unfold gA
  rw [gOk_recL a p b hp, if_pos rfl, Int.toNat_natCast, (recAt_recL a p b hp).1]
  exact (recAt_recL a p b hp).2.2
theorem gN_recL (a p b : List UInt8) (hp : p.length ≤ 2000) : gN (a ++ (recL p ++ b)) (a.length : Int) = a.length + p.length + 12 := by
  unfold gN
  rw [gOk_recL a p b hp, if_pos rfl, Int.toNat_natCast, (recAt_recL a p b hp).1]
theorem bN_recL (a p b : List UInt8) (hp : p.length ≤ 2000) : bN (a ++ (recL p ++ b)) ((a.length + p.length + 12 : Nat) : Int) = p.length := by
  obtain ⟨c, hc, hr⟩ := recL_front p
  unfold bN
  rw [Int.toNat_natCast]
  have e : a ++ (recL p ++ b) = (a ++ (be 4 p.length ++ (p ++ c))) ++ (be 4 p.length ++ b) := by rw [hr]; simp only [List.append_assoc]
  have hl : (a ++ (be 4 p.length ++ (p ++ c))).length = a.length + p.length + 12 - 4 := by simp; omega
  rw [e, ← hl]
  exact numAt_be (a ++ (be 4 p.length ++ (p ++ c))) b p.length (by omega)
theorem bOk_recL (a p b : List UInt8) (hp : p.length ≤ 2000) : bOk (a ++ (recL p ++ b)) ((a.length + p.length + 12 : Nat) : Int) = true := by
  unfold bOk
  have hl : (recL p).length = p.length + 12 := length_recL p
  rw [bN_recL a p b hp, show (((a.length + p.length + 12 : Nat) : Int) - 12 - (p.length : Int)) = (a.length : Int) from by omega, gOk_recL a p b hp, gN_recL a p b hp]
  rw [decide_eq_true (by simp only [List.length_append, hl]; omega), decide_eq_true (by omega)]
  simp
theorem bA_recL (a p b : List UInt8) (hp : p.length ≤ 2000) : bA (a ++ (recL p ++ b)) ((a.length + p.length + 12 : Nat) : Int) = p := by
  unfold bA
  rw [bOk_recL a p b hp, if_pos rfl, bN_recL a p b hp, show (((a.length + p.length + 12 : Nat) : Int) - 12 - (p.length : Int)) = (a.length : Int) from by omega]
  exact gA_recL a p b hp
theorem bP_recL (a p b : List UInt8) (hp : p.length ≤ 2000) : bP (a ++ (recL p ++ b)) ((a.length + p.length + 12 : Nat) : Int) = a.length := by
  unfold bP
  rw [bOk_recL a p b hp, if_pos rfl, bN_recL a p b hp]; omega

/-- The bytes of a row. -/
def rowL (a : List UInt8) (ps : List (List UInt8)) : List UInt8 := a ++ (ps.map recL).flatten
theorem rowL_nil (a : List UInt8) : rowL a [] = a := by simp [rowL]
theorem rowL_snoc (a : List UInt8) (ps : List (List UInt8)) (p : List UInt8) : rowL a (ps ++ [p]) = rowL a ps ++ recL p := by simp [rowL]
theorem rowL_split (a : List UInt8) (ps : List (List UInt8)) (i : Nat) (h : i < ps.length) : rowL a ps = rowL a (ps.take i) ++ (recL ps[i] ++ ((ps.drop (i + 1)).map recL).flatten) := by
  have e : ps = ps.take i ++ (ps[i] :: ps.drop (i + 1)) := by rw [List.getElem_cons_drop, List.take_append_drop]
  conv => lhs; rw [e]
  simp only [rowL, List.map_append, List.map_cons, List.flatten_append, List.flatten_cons, List.append_assoc]
/-- Where number i stands. -/
def posL (a : List UInt8) (ps : List (List UInt8)) (i : Nat) : Nat := (rowL a (ps.take i)).length
def rowAt (a : List UInt8) (ps : List (List UInt8)) : List Nat := (List.range (ps.length + 1)).map (posL a ps)
@[simp] theorem length_rowAt (a : List UInt8) (ps : List (List UInt8)) : (rowAt a ps).length = ps.length + 1 := by simp [rowAt]
theorem rowAt_get (a : List UInt8) (ps : List (List UInt8)) (i : Nat) (h : i < (rowAt a ps).length) : (rowAt a ps)[i] = posL a ps i := by simp [rowAt]
theorem rowAt_nil (a : List UInt8) : rowAt a [] = [a.length] := by simp [rowAt, posL, rowL]
theorem posL_zero (a : List UInt8) (ps : List (List UInt8)) : posL a ps 0 = a.length := by simp [posL, rowL]
theorem posL_end (a : List UInt8) (ps : List (List UInt8)) : posL a ps ps.length = (rowL a ps).length := by simp [posL]
theorem posL_succ (a : List UInt8) (ps : List (List UInt8)) (i : Nat) (h : i < ps.length) : posL a ps (i + 1) = posL a ps i + ps[i].length + 12 := by
  unfold posL
  rw [List.take_succ_eq_append_getElem h, rowL_snoc, List.length_append, length_recL]; omega
theorem posL_snoc (a : List UInt8) (ps : List (List UInt8)) (p : List UInt8) (i : Nat) (h : i ≤ ps.length) : posL a (ps ++ [p]) i = posL a ps i := by
  unfold posL
  rw [List.take_append_of_le_length h]
theorem rowAt_snoc (a : List UInt8) (ps : List (List UInt8)) (p : List UInt8) : rowAt a (ps ++ [p]) = rowAt a ps ++ [(rowL a (ps ++ [p])).length] := by
  unfold rowAt
  rw [List.length_append, List.length_singleton, List.range_succ, List.map_append]
  congr 1
  · apply List.map_congr_left
    intro i hi
    exact posL_snoc a ps p i (by have := List.mem_range.1 hi; omega)
  · simp [← posL_end]
theorem posL_le (a : List UInt8) (ps : List (List UInt8)) (i : Nat) : posL a ps i ≤ (rowL a ps).length := by
  by_cases h : i < ps.length
  · rw [rowL_split a ps i h]; unfold posL; simp only [List.length_append]; omega
  · unfold posL; rw [List.take_of_length_le (by omega)]; exact Nat.le_refl _
theorem posL_mono (a : List UInt8) (ps : List (List UInt8)) (i : Nat) : posL a ps i ≤ posL a ps (i + 1) := by
  by_cases h : i < ps.length
  · rw [posL_succ a ps i h]; omega
  · unfold posL; rw [List.take_of_length_le (by omega), List.take_of_length_le (by omega)]; exact Nat.le_refl _
theorem posL_ge (a : List UInt8) (ps : List (List UInt8)) : ∀ i, a.length ≤ posL a ps i := by
  intro i
  unfold posL rowL
  simp

/-- Of a row that is cut off just the records that are whole are found. -/
theorem cut_at (a : List UInt8) (ps : List (List UInt8)) (k i : Nat) (h : i < ps.length) (hp : ps[i].length ≤ 2000) (hk : posL a ps (i + 1) ≤ k) :
    recAt ((rowL a ps).take k) (posL a ps i) = true ∧ numAt ((rowL a ps).take k) (posL a ps i) = ps[i].length := by
  have hs := posL_succ a ps i h
  have e : (rowL a ps).take k = rowL a (ps.take i) ++ (recL ps[i] ++ (((ps.drop (i + 1)).map recL).flatten.take (k - posL a ps (i + 1)))) := by
    rw [rowL_split a ps i h, List.take_append, List.take_of_length_le (by show posL a ps i ≤ k; omega), List.take_append, List.take_of_length_le (l := recL ps[i]) (by rw [length_recL]; show _ ≤ k - posL a ps i; omega)]
    congr 3
    rw [length_recL, hs]; show k - posL a ps i - _ = _; omega
  rw [e]
  exact ⟨(recAt_recL (rowL a (ps.take i)) ps[i] _ hp).2.1, (recAt_recL (rowL a (ps.take i)) ps[i] _ hp).1⟩
theorem cut_stop (a : List UInt8) (ps : List (List UInt8)) (k i : Nat) (hi : i ≤ ps.length) (hp : ∀ p ∈ ps, p.length ≤ 2000) (h1 : posL a ps i ≤ k) (h2 : i < ps.length → k < posL a ps (i + 1)) (hk : k ≤ (rowL a ps).length) :
    recAt ((rowL a ps).take k) (posL a ps i) = false := by
  rcases hr : recAt ((rowL a ps).take k) (posL a ps i) with _ | _
  · rfl
  · exfalso
    have hb := recAt_bounds hr
    have hl : ((rowL a ps).take k).length = k := by simp; omega
    rw [hl] at hb
    by_cases h : i < ps.length
    · have hs := posL_succ a ps i h
      have h2' := h2 h
      have hp' := hp ps[i] (List.getElem_mem h)
      have hn : numAt ((rowL a ps).take k) (posL a ps i) = ps[i].length := by
        have hd : ((rowL a ps).drop (posL a ps i)).take 4 = (((rowL a ps).take k).drop (posL a ps i)).take 4 := by
          rw [List.drop_take, List.take_take, Nat.min_eq_left (by omega)]
        unfold numAt
        rw [← hd]
        have := (recAt_recL (rowL a (ps.take i)) ps[i] (((ps.drop (i + 1)).map recL).flatten) hp').1
        rw [← rowL_split a ps i h] at this
        exact this
      omega
    · have : i = ps.length := by omega
      subst this
      rw [posL_end] at hb h1; omega
theorem cut_whole (a : List UInt8) (ps : List (List UInt8)) (k many : Nat) (hm : many ≤ ps.length) (hp : ∀ p ∈ ps, p.length ≤ 2000) (h1 : posL a ps many ≤ k) (h2 : many < ps.length → k < posL a ps (many + 1)) (hk : k ≤ (rowL a ps).length) :
    wAt ((rowL a ps).take k) (a.length : Int) = (rowAt a ps).take many ∧ wEnd ((rowL a ps).take k) (a.length : Int) = posL a ps many := by
  have hl : ((rowL a ps).take k).length = k := by simp; omega
  have key : ∀ j, j ≤ many → wholeL ((rowL a ps).take k) k (posL a ps (many - j)) = (((rowAt a ps).take many).drop (many - j), posL a ps many) := by
    intro j
    induction j with
    | zero =>
      intro _
      rw [Nat.sub_zero, wholeL_stop (cut_stop a ps k many hm hp h1 h2 hk), List.drop_of_length_le (by simp; omega)]
    | succ j ih =>
      intro hj
      have hlt : many - (j + 1) < ps.length := by omega
      have hle : ∀ d i, posL a ps i ≤ posL a ps (i + d) := by
        intro d
        induction d with
        | zero => intro i; exact Nat.le_refl _
        | succ d ih => intro i; exact Nat.le_trans (ih i) (posL_mono a ps (i + d))
      have hpk : posL a ps (many - (j + 1) + 1) ≤ k := by
        have := hle j (many - (j + 1) + 1)
        rw [show many - (j + 1) + 1 + j = many from by omega] at this
        omega
      obtain ⟨c1, c2⟩ := cut_at a ps k (many - (j + 1)) hlt (hp _ (List.getElem_mem hlt)) hpk
      have hg := wholeL_go c1
      rw [hl, c2, ← posL_succ a ps _ hlt, show many - (j + 1) + 1 = many - j from by omega, ih (by omega)] at hg
      rw [hg]
      have hlen : many - (j + 1) < ((rowAt a ps).take many).length := by simp; omega
      rw [← List.getElem_cons_drop hlen, List.getElem_take, rowAt_get, show many - (j + 1) + 1 = many - j from by omega]
  have h0 := key many (Nat.le_refl _)
  rw [Nat.sub_self, posL_zero, List.drop_zero] at h0
  have hal : a.length ≤ k := Nat.le_trans (posL_ge a ps many) h1
  unfold wAt wEnd
  rw [hl, if_neg (by omega), if_neg (by omega), Int.toNat_natCast, h0]
  exact ⟨rfl, rfl⟩
end Go.Proofs.Ytjcdkekmploelaa
