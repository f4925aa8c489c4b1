/-
  PAGES: what a file says of hashes that were made, as it was made, and spoilt. No program in sight.
-/
import Derived.Test.YtpoeginnoocenaaPage2
import Derived.Test.YtpoeginnoocenaaPage1
import Derived.Test.YtpoeginnoocenaaBloomMore
namespace Go.Proofs.Ytpoeginnoocenaa
open Go.RowKit
set_option linter.unusedVariables false

/-- Piece k of a file. -/
def pgN (T : List UInt8) (k : Nat) : List UInt8 := (T.drop (64 * k)).take 64
theorem pgN_len {T : List UInt8} {k : Nat} (h : 64 * k + 64 ≤ T.length) : (pgN T k).length = 64 := by
  unfold pgN
  rw [List.length_take, List.length_drop]; omega
theorem rawF_pg (T : List UInt8) (n : Nat) : rawF T n = pgN T (n + 1) := by
  unfold rawF pgN
  rw [show (n + 1) * 64 = 64 * (n + 1) by omega]
theorem take_pg (T : List UInt8) : T.take 64 = pgN T 0 := by unfold pgN; simp
theorem pgN_append {A B : List UInt8} {k : Nat} (h : 64 * k + 64 ≤ A.length) : pgN (A ++ B) k = pgN A k := by
  unfold pgN
  rw [List.drop_append_of_le_length (by omega), List.take_append_of_le_length (by rw [List.length_drop]; omega)]
theorem pgN_mid {A M Z : List UInt8} {k : Nat} (h : A.length = 64 * k) (hm : M.length = 64) : pgN (A ++ (M ++ Z)) k = M := by
  unfold pgN
  rw [← h, List.drop_left, ← hm, List.take_left]
theorem flat_len (f : Nat → List UInt8) (hf : ∀ n, (f n).length = 64) (K : Nat) : ((List.range K).flatMap f).length = 64 * K := by
  induction K with
  | zero => rfl
  | succ K ih => rw [List.range_succ, List.flatMap_append, List.length_append, ih]; simp [hf]; omega
theorem flat_succ (f : Nat → List UInt8) (K : Nat) : (List.range (K + 1)).flatMap f = (List.range K).flatMap f ++ f K := by
  rw [List.range_succ, List.flatMap_append]; simp
theorem pgN_flat (f : Nat → List UInt8) (hf : ∀ n, (f n).length = 64) (K k : Nat) (h : k < K) : pgN ((List.range K).flatMap f) k = f k := by
  induction K with
  | zero => omega
  | succ K ih =>
    rw [flat_succ]
    rcases Nat.lt_or_ge k K with h1 | h1
    · rw [pgN_append (by rw [flat_len f hf]; omega)]
      exact ih h1
    · obtain rfl : k = K := by omega
      have := pgN_mid (A := (List.range k).flatMap f) (M := f k) (Z := []) (flat_len f hf k) (hf k)
      rwa [List.append_nil] at this
/-- The pieces of a filter's file. -/
def pieceP (L : List UInt8) (P m : Nat) (k : Nat) : List UInt8 := if k = 0 then headP (60 * m) P else if k ≤ m then sealL (pageRaw L (k - 1)) else List.replicate 64 0
theorem pageRaw_60 {L : List UInt8} {m k : Nat} (h : L.length = 60 * m) (hk : k < m) : (pageRaw L k).length = 60 := by unfold pageRaw; simp; omega
theorem pieceP_len {L : List UInt8} {m : Nat} (P : Nat) (h : L.length = 60 * m) (k : Nat) : (pieceP L P m k).length = 64 := by
  unfold pieceP
  split
  · exact headP_len _ _
  · split
    · rw [sealL_len, pageRaw_60 h (by omega)]
    · simp
theorem fileP_flat {L : List UInt8} {m P : Nat} (h : L.length = 60 * m) (hm : 1 ≤ m ∧ m ≤ 2000) (hP : 1 ≤ P ∧ P ≤ 16) : fileP L (P : Int) = (List.range (m + 1)).flatMap (pieceP L P m) := by
  rw [fileP_yes ((mayI_iff _ _).2 (by omega)) h]
  have hk : ∀ k, k ≤ m → (List.range (k + 1)).flatMap (pieceP L P m) = headP (60 * m) P ++ pagesTo L k := by
    intro k
    induction k with
    | zero => intro _; rw [flat_succ]; simp [pieceP, pagesTo]
    | succ k ih =>
      intro h9
      rw [flat_succ, ih (by omega), pagesTo_succ, List.append_assoc]
      congr 2
      unfold pieceP
      rw [if_neg (by omega), if_pos (by omega)]
      rfl
  exact (hk m (Nat.le_refl _)).symm
theorem pgN_file {L : List UInt8} {m P k : Nat} (h : L.length = 60 * m) (hm : 1 ≤ m ∧ m ≤ 2000) (hP : 1 ≤ P ∧ P ≤ 16) (hk : k ≤ m) : pgN (fileP L (P : Int)) k = pieceP L P m k := by
  rw [fileP_flat h hm hP]
  exact pgN_flat _ (pieceP_len P h) _ _ (by omega)
theorem fileP_len {L : List UInt8} {m P : Nat} (h : L.length = 60 * m) (hm : 1 ≤ m ∧ m ≤ 2000) (hP : 1 ≤ P ∧ P ≤ 16) : (fileP L (P : Int)).length = 64 * (m + 1) := by
  rw [fileP_flat h hm hP]
  exact flat_len _ (pieceP_len P h) _
theorem getN_four (n : Nat) (h : n < 4294967296) : getN (putL n 4) = n := by
  have e : putL n 4 = be 4 n := by unfold putL; rw [if_neg (by omega)]; rfl
  rw [e]
  unfold getN
  rw [List.take_of_length_le (by rw [be_length]; omega), num_be]
  exact Nat.mod_eq_of_lt h
theorem head_probes {T : List UInt8} {s P : Nat} (hP : P ≤ 16) (h : T.take 64 = headP s P) : probesF T = P := by
  have e : T.getD 3 0 = (T.take 64).getD 3 0 := by
    rw [List.getD_eq_getElem?_getD, List.getD_eq_getElem?_getD, List.getElem?_take]
    rfl
  have e2 : (headP s P).getD 3 0 = UInt8.ofNat (P % 256) := by
    have ep : putL P 1 = [UInt8.ofNat (P % 256)] := by unfold putL; rw [if_neg (by omega)]; rfl
    unfold headP sealL headRaw
    rw [ep]; rfl
  unfold probesF
  rw [e, h, e2]
  simp; omega
theorem head_size {T : List UInt8} {s P : Nat} (hs : s < 4294967296) (h : T.take 64 = headP s P) : sizeF T = s := by
  have e : (T.drop 4).take 4 = ((T.take 64).drop 4).take 4 := by
    rw [List.drop_take, List.take_take]; rfl
  have l4 : (putL s 4).length = 4 := by unfold putL; simp
  have e2 : ((headP s P).drop 4).take 4 = putL s 4 := by
    have ep : putL P 1 = [UInt8.ofNat (P % 256)] := by unfold putL; rw [if_neg (by omega)]; rfl
    unfold headP sealL headRaw
    rw [ep]
    generalize putL s 4 = X at l4
    match X, l4 with
    | [a, b, c, d], _ => rfl
  unfold sizeF
  rw [e, h, e2, getN_four s hs]
theorem bitL_page {L : List UInt8} (b : Nat) : bitL (pageRaw L (b / 480)) (b % 480) = bitL L b := by
  unfold bitL pageRaw
  rw [List.getD_eq_getElem?_getD, List.getD_eq_getElem?_getD, List.getElem?_take, if_pos (by omega), List.getElem?_drop]
  rw [show 60 * (b / 480) + b % 480 / 8 = b / 8 by omega, show b % 480 % 8 = b % 8 by omega]
theorem pieceP_zero (L : List UInt8) (P m : Nat) : pieceP L P m 0 = headP (60 * m) P := rfl
theorem pieceP_succ {L : List UInt8} {P m n : Nat} (h : n < m) : pieceP L P m (n + 1) = sealL (pageRaw L n) := by
  unfold pieceP
  rw [if_neg (by omega), if_pos (by omega)]
  rfl
/-- A page that is there as it was made: its bits are the bits'. -/
theorem bit_kept {L T : List UInt8} {m P b : Nat} (hL : L.length = 60 * m) (hm : 1 ≤ m ∧ m ≤ 2000) (hP : 1 ≤ P ∧ P ≤ 16) (hb : b < 480 * m) (hlen : 64 * (b / 480 + 1) + 64 ≤ T.length)
    (hp : pgN T (b / 480 + 1) = pgN (fileP L (P : Int)) (b / 480 + 1)) : bitF T b = bitL L b := by
  have hn : b / 480 < m := by omega
  rw [pgN_file hL hm hP (by omega), pieceP_succ hn, ← rawF_pg] at hp
  have ho : openOk (rawF T (b / 480)) = true := by rw [hp]; exact openOk_seal _
  rw [bitF_some (pageF_some (by omega) ho), hp, openA_seal, bitL_page]
theorem okF_made {L : List UInt8} {m P : Nat} (hL : L.length = 60 * m) (hm : 1 ≤ m ∧ m ≤ 2000) (hP : 1 ≤ P ∧ P ≤ 16) :
    okF (fileP L (P : Int)) = true ∧ probesF (fileP L (P : Int)) = P ∧ sizeF (fileP L (P : Int)) = 60 * m := by
  have e : (fileP L (P : Int)).take 64 = headP (60 * m) P := by rw [take_pg, pgN_file hL hm hP (by omega)]; rfl
  have h1 := head_probes hP.2 e
  have h2 := head_size (by omega) e
  refine ⟨?_, h1, h2⟩
  unfold okF
  rw [h1, h2, e, fileP_len hL hm hP, (mayI_iff _ _).2 (by omega)]
  simp only [decide_true, Bool.and_true, decide_eq_true_eq]
  omega
/-- A file as it was made says what the bits say. -/
theorem may_made {L : List UInt8} {m P : Nat} (h : Nat) (hL : L.length = 60 * m) (hm : 1 ≤ m ∧ m ≤ 2000) (hP : 1 ≤ P ∧ P ≤ 16) : mayF (fileP L (P : Int)) h = hasL L (P : Int) h := by
  obtain ⟨h1, h2, h3⟩ := okF_made hL hm hP
  have hne : L.isEmpty = false := by cases L with
    | nil => simp at hL; omega
    | cons a l => rfl
  have hmn : manyN (P : Int) = P := by unfold manyN; omega
  unfold mayF hasL
  rw [h1, h2, h3, hne, hmn, hL]
  simp only [Bool.not_true, Bool.false_or]
  rw [Bool.eq_iff_iff, all_range, all_range]
  have hb : ∀ i, bitF (fileP L (P : Int)) (prN h i (8 * (60 * m))) = bitL L (prN h i (8 * (60 * m))) := by
    intro i
    have hlt := prN_lt h i (bits := 8 * (60 * m)) (by omega)
    exact bit_kept hL hm hP (by omega) (by rw [fileP_len hL hm hP]; omega) rfl
  simp only [hb]
/-- Each hash that was made may be there, as long as what is sealed is as it was. -/
theorem may_kept {L T : List UInt8} {m P h : Nat} (hL : L.length = 60 * m) (hm : 1 ≤ m ∧ m ≤ 2000) (hP : 1 ≤ P ∧ P ≤ 16)
    (hk : ∀ k, 64 * k + 64 ≤ T.length → openOk (pgN T k) = true → 64 * k + 64 ≤ (fileP L (P : Int)).length ∧ pgN T k = pgN (fileP L (P : Int)) k) (hh : hasL L (P : Int) h = true) : mayF T h = true := by
  rcases ho : okF T with _ | _
  · exact mayF_not h ho
  · have h64 : 64 ≤ T.length ∧ T.take 64 = headP (sizeF T) (probesF T) := by
      unfold okF at ho
      simp only [Bool.and_eq_true, decide_eq_true_eq] at ho
      exact ⟨ho.1, ho.2.2⟩
    obtain ⟨h1, h2⟩ := h64
    have hp0 := hk 0 (by omega) (by rw [← take_pg, h2]; exact openOk_seal _)
    have e : T.take 64 = headP (60 * m) P := by rw [take_pg, hp0.2, pgN_file hL hm hP (by omega)]; rfl
    have e1 := head_probes hP.2 e
    have e2 := head_size (by omega) e
    have hne : L.isEmpty = false := by cases L with
      | nil => simp at hL; omega
      | cons a l => rfl
    have hmn : manyN (P : Int) = P := by unfold manyN; omega
    unfold hasL at hh
    rw [hne, hmn, hL, Bool.false_or, all_range] at hh
    refine mayF_yes fun i hi => ?_
    rw [e1] at hi
    rw [e2]
    have hb := hh i hi
    have hlt := prN_lt h i (bits := 8 * (60 * m)) (by omega)
    generalize prN h i (8 * (60 * m)) = b at hb hlt ⊢
    rcases hpg : pageF T (b / 480) with _ | p
    · exact bitF_none hpg
    · have hc : (b / 480 + 2) * 64 ≤ T.length ∧ openOk (rawF T (b / 480)) = true := by
        unfold pageF at hpg
        split at hpg
        · assumption
        · cases hpg
      have hq := hk (b / 480 + 1) (by omega) (by rw [← rawF_pg]; exact hc.2)
      rw [bit_kept hL hm hP (by omega) (by omega) hq.2, hb]
theorem made_len (l : List Nat) (P m : Nat) (h : 1 ≤ m ∧ m ≤ 5) : makeL l (P : Int) ((480 * m : Nat) : Int) = packL (onB l (P : Int) (8 * (60 * m))) (60 * m) := by
  unfold makeL
  rw [if_neg (by omega), show ((480 * m : Nat) : Int).toNat = 8 * (60 * m) from by omega, show 8 * (60 * m) / 8 = 60 * m from by omega]
theorem made_has (l : List Nat) (P m h : Nat) (hm : 1 ≤ m ∧ m ≤ 5) (hh : h ∈ l) : (makeL l (P : Int) ((480 * m : Nat) : Int)).length = 60 * m ∧ hasL (makeL l (P : Int) ((480 * m : Nat) : Int)) (P : Int) h = true := by
  rw [made_len l P m hm]
  exact ⟨length_packL _ _, has_made l _ _ h (by omega) _ (fun b hb => hb) hh⟩
end Go.Proofs.Ytpoeginnoocenaa
