/-
  The reference's Get, and both Backs, by their contracts.
-/
import Derived.Test.YtjcdkekmploelaaRecords
namespace Go.Proofs.Ytjcdkekmploelaa
open Go.RowKit
set_option linter.unusedVariables false

set_option maxHeartbeats 1000000 in
theorem ref_recGet (s : ByteArray) (a : Int) (w : World) (hs : s.size ≤ 9223372036854775000) (ha : -9223372036854775808 ≤ a ∧ a ≤ 9223372036854775807) :
    Calls Try.prog 36 #[.string s, .int .i64 a] w fun e w' => e = .returned (.tuple #[.string (bs (gA (lb s) a)), .int .i64 (gN (lb s) a), .bool (gOk (lb s) a)]) ∧ Below w.heap.size w w' := by
  obtain ⟨ha1, ha2⟩ := ha
  by_cases hsh : a < 0 ∨ (s.size : Int) - 12 < a
  · have h0 := gOk_short s a hsh
    unfold gA gN
    rw [h0]; clear h0
    rcases (show a < 0 ∨ (¬ a < 0 ∧ (s.size : Int) < a) ∨ (¬ a < 0 ∧ ¬ (s.size : Int) < a ∧ (s.size : Int) - a < 12) from by omega) with h | ⟨h, h'⟩ | ⟨h, h', h''⟩
    all_goals
      clear hsh
      go_enter Try.func36, Try.ntmps36
      go_wp2
      go_ret3
      exact ⟨rfl, Below.refl _ _⟩
  · obtain ⟨k, rfl⟩ := Int.eq_ofNat_of_zero_le (a := a) (by omega)
    have h1 : ¬ (s.size : Int) < k := by omega
    have h1' : ¬ (s.size : Int) - k < 12 := by omega
    have hl : k + 12 ≤ (lb s).length := by rw [length_lb]; omega
    obtain ⟨n, hn⟩ : ∃ n, n = numAt (lb s) k := ⟨_, rfl⟩
    have hn2 : n < 4294967296 := by rw [hn]; exact numAt_lt _ _
    have hp := gOk_parts (lb s) k n hn.symm hl
    have hge : getN (lb (s.extract k (k + 4))) = n := by
      rw [hn, bs_extract, lb_bs, show k + 4 - k = 4 from by omega]
      unfold getN numAt
      rw [List.take_of_length_le (l := ((lb s).drop k).take 4) (by simp; omega)]
    have Hn := Lib.hid hn
    have Hp := Lib.hid hp
    have Hge := Lib.hid hge
    clear hn hp hge hsh
    go_enter Try.func36, Try.ntmps36
    go_wp2_with fail
    refine (ref_Get _ _ (by rw [bs_extract]; simp [maxLen]; omega)).mono ?_
    rintro e w' ⟨rfl, rfl⟩
    rw [Hge.out]
    by_cases hn3 : n ≤ 2000
    · have hn3' : ¬ (2000 : Int) < n := by omega
      by_cases hn4 : k + n + 12 ≤ s.size
      · have hn4' : ¬ (s.size : Int) - k < (n : Int) + 12 := by omega
        obtain ⟨P, hP⟩ : ∃ P, P = ((lb s).drop (k + 4)).take n := ⟨_, rfl⟩
        have hPl : P.length = n := by rw [hP]; simp; omega
        have hrl : (recL P).length = n + 12 := by rw [length_recL, hPl]
        have hex : s.extract (k + 4) (k + 4 + n) = bs P := by rw [bs_extract, hP, show k + 4 + n - (k + 4) = n from by omega]
        have hsame : ((s.extract k (k + (n + 12))).toList == recL P) = (((lb s).drop k).take (n + 12) == recL P) := by
          rw [bs_extract, toList_bs, show k + (n + 12) - k = n + 12 from by omega]
        have hgo : gOk (lb s) k = ((s.extract k (k + (n + 12))).toList == recL P) := by
          rw [Hp.out, decide_eq_true hn3, decide_eq_true (by rw [length_lb]; exact hn4), Bool.true_and, Bool.true_and, hsame, hP]
        have hpr : putR P = recL P := by unfold putR; rw [if_neg (by omega)]
        have Hgo := Lib.hid hgo
        have HP := Lib.hid hP
        have Hpr := Lib.hid hpr
        have HPl := Lib.hid hPl
        clear hgo hP hsame hpr hPl
        go_wp2_with fail
        refine (ref_recPut _ _ (by rw [size_bs, HPl.out]; omega)).mono ?_
        rintro e w1 ⟨rfl, hb1⟩
        rw [lb_bs, Hpr.out]
        by_cases hsm : ((s.extract k (k + (n + 12))).toList == recL P) = true
        · have hg : gOk (lb s) k = true := by rw [Hgo.out, hsm]
          have e1 : bs P = bs (gA (lb s) k) := by unfold gA; rw [hg, if_pos rfl, Int.toNat_natCast, ← Hn.out, HP.out]
          have e2 : gN (lb s) k = k + n + 12 := by unfold gN; rw [hg, if_pos rfl, Int.toNat_natCast, ← Hn.out]
          have Hg := Lib.hid hg
          have E1 := Lib.hid e1
          have E2 := Lib.hid e2
          clear hg e1 e2 Hgo
          go_wp2
          go_ret3
          exact ⟨ret_sib E1.out (by rw [E2.out]; omega) Hg.out.symm, hb1⟩
        · have hsm' : ((s.extract k (k + (n + 12))).toList == recL P) = false := by simpa using hsm
          clear hsm
          have hg : gOk (lb s) k = false := by rw [Hgo.out, hsm']
          have e1 : bs [] = bs (gA (lb s) k) := by unfold gA; rw [hg]; rfl
          have e2 : gN (lb s) k = 0 := by unfold gN; rw [hg]; rfl
          have Hg := Lib.hid hg
          have E1 := Lib.hid e1
          have E2 := Lib.hid e2
          clear hg e1 e2 Hgo
          go_wp2
          go_ret3
          exact ⟨ret_sib E1.out (by rw [E2.out]; rfl) Hg.out.symm, hb1⟩
      · have hn4' : (s.size : Int) - k < (n : Int) + 12 := by omega
        have hg : gOk (lb s) k = false := by rw [Hp.out, decide_eq_false (p := k + n + 12 ≤ (lb s).length) (by rw [length_lb]; exact hn4)]; simp
        have e1 : bs [] = bs (gA (lb s) k) := by unfold gA; rw [hg]; rfl
        have e2 : gN (lb s) k = 0 := by unfold gN; rw [hg]; rfl
        have Hg := Lib.hid hg
        have E1 := Lib.hid e1
        have E2 := Lib.hid e2
        clear hg e1 e2
        go_wp2
        go_ret3
        exact ⟨ret_sib E1.out (by rw [E2.out]; rfl) Hg.out.symm, Below.refl _ _⟩
    · have hn3' : (2000 : Int) < n := by omega
      have hg : gOk (lb s) k = false := by rw [Hp.out, decide_eq_false hn3]; rfl
      have e1 : bs [] = bs (gA (lb s) k) := by unfold gA; rw [hg]; rfl
      have e2 : gN (lb s) k = 0 := by unfold gN; rw [hg]; rfl
      have Hg := Lib.hid hg
      have E1 := Lib.hid e1
      have E2 := Lib.hid e2
      clear hg e1 e2
      go_wp2
      go_ret3
      exact ⟨ret_sib E1.out (by rw [E2.out]; rfl) Hg.out.symm, Below.refl _ _⟩

theorem bOk_parts (l : List UInt8) (e : Nat) (h12 : 12 ≤ e) (hl : e ≤ l.length) (n : Nat) (hn : bN l (e : Int) = n) :
    bOk l (e : Int) = (decide (n ≤ 2000 ∧ (n : Int) + 12 ≤ (e : Int)) && (gOk l ((e : Int) - 12 - n) && ((gN l ((e : Int) - 12 - n) : Int) == (e : Int)))) := by
  unfold bOk
  rw [decide_eq_true (by omega : (12 : Int) ≤ (e : Int) ∧ (e : Int) ≤ l.length), Bool.true_and, hn]

set_option maxHeartbeats 1000000 in
theorem records_Back (s : ByteArray) (a : Int) (w : World) (hs : s.size ≤ 9223372036854775000) (ha : -9223372036854775808 ≤ a ∧ a ≤ 9223372036854775807) :
    Calls Try.prog 22 #[.string s, .int .i64 a] w fun e w' => e = .returned (.tuple #[.string (bs (bA (lb s) a)), .int .i64 (bP (lb s) a), .bool (bOk (lb s) a)]) ∧ Below w.heap.size w w' := by
  obtain ⟨ha1, ha2⟩ := ha
  by_cases hsh : a < 12 ∨ (s.size : Int) < a
  · have h0 : bOk (lb s) a = false := by unfold bOk; rw [length_lb, decide_eq_false (by omega)]; rfl
    unfold bA bP
    rw [h0]; clear h0
    rcases (show a < 12 ∨ (¬ a < 12 ∧ (s.size : Int) < a) from by omega) with h | ⟨h, h'⟩
    all_goals
      clear hsh
      go_enter Try.func22, Try.ntmps22
      go_wp2
      go_ret3
      exact ⟨rfl, Below.refl _ _⟩
  · obtain ⟨k, rfl⟩ := Int.eq_ofNat_of_zero_le (a := a) (by omega)
    have h1 : ¬ (k : Int) < 12 := by omega
    have h1' : ¬ (s.size : Int) < k := by omega
    obtain ⟨n, hn⟩ : ∃ n, bN (lb s) (k : Int) = n := ⟨_, rfl⟩
    have hn2 : n < 4294967296 := by rw [← hn]; exact numAt_lt _ _
    have hp := bOk_parts (lb s) k (by omega) (by rw [length_lb]; omega) n hn
    have hge : getN (lb (s.extract (k - 4) k)) = n := by
      rw [← hn, bs_extract, lb_bs, show k - (k - 4) = 4 from by omega]
      unfold getN bN
      rw [Int.toNat_natCast, List.take_of_length_le (l := ((lb s).drop (k - 4)).take 4) (by simp; omega)]
    have Hn := Lib.hid hn
    have Hp := Lib.hid hp
    have Hge := Lib.hid hge
    clear hn hp hge hsh
    go_enter Try.func22, Try.ntmps22
    go_wp2_with fail
    refine (nums_Get _ _ (by rw [bs_extract]; simp [maxLen]; omega)).mono ?_
    rintro e w' ⟨rfl, rfl⟩
    rw [Hge.out]
    by_cases hn3 : n ≤ 2000 ∧ (n : Int) + 12 ≤ k
    · obtain ⟨hn3a, hn3b⟩ := hn3
      have hn3' : ¬ (2000 : Int) < n := by omega
      have hn4' : ¬ (k : Int) - 12 < n := by omega
      go_wp2_with fail
      refine (records_Get _ _ _ hs (by omega)).mono ?_
      rintro e w1 ⟨rfl, hb1⟩
      by_cases hg : gOk (lb s) ((k : Int) - 12 - n) = true
      · by_cases hgn : ((gN (lb s) ((k : Int) - 12 - n) : Nat) : Int) = k
        · have hb : bOk (lb s) k = true := by rw [Hp.out, decide_eq_true ⟨hn3a, hn3b⟩, hg, hgn]; simp
          have e1 : bs (gA (lb s) ((k : Int) - 12 - n)) = bs (bA (lb s) k) := by unfold bA; rw [hb, if_pos rfl, Hn.out]
          have e2 : bP (lb s) k = (k : Int) - 12 - n := by unfold bP; rw [hb, if_pos rfl, Hn.out]
          have hgn' : (((gN (lb s) ((k : Int) - 12 - n) : Nat) : Int) != (k : Int)) = false := by rw [hgn]; simp
          have Hb := Lib.hid hb
          have E1 := Lib.hid e1
          have E2 := Lib.hid e2
          clear hb e1 e2 hgn
          rw [hg]; clear hg
          go_wp2
          go_ret3
          exact ⟨ret_sib E1.out E2.out.symm Hb.out.symm, hb1⟩
        · have hb : bOk (lb s) k = false := by
            rw [Hp.out, hg, show (((gN (lb s) ((k : Int) - 12 - n) : Nat) : Int) == (k : Int)) = false from by rw [beq_eq_false_iff_ne]; exact hgn]; simp
          have e1 : bs [] = bs (bA (lb s) k) := by unfold bA; rw [hb]; rfl
          have e2 : bP (lb s) k = 0 := by unfold bP; rw [hb]; rfl
          have hgn' : (((gN (lb s) ((k : Int) - 12 - n) : Nat) : Int) != (k : Int)) = true := by rw [bne_iff_ne]; exact hgn
          have Hb := Lib.hid hb
          have E1 := Lib.hid e1
          have E2 := Lib.hid e2
          clear hb e1 e2 hgn
          rw [hg]; clear hg
          go_wp2
          go_ret3
          exact ⟨ret_sib E1.out E2.out.symm Hb.out.symm, hb1⟩
      · have hg' : gOk (lb s) ((k : Int) - 12 - n) = false := by simpa using hg
        clear hg
        have hb : bOk (lb s) k = false := by rw [Hp.out, hg']; simp
        have e1 : bs [] = bs (bA (lb s) k) := by unfold bA; rw [hb]; rfl
        have e2 : bP (lb s) k = 0 := by unfold bP; rw [hb]; rfl
        have Hb := Lib.hid hb
        have E1 := Lib.hid e1
        have E2 := Lib.hid e2
        clear hb e1 e2
        rw [hg']; clear hg'
        go_wp2
        go_ret3
        exact ⟨ret_sib E1.out E2.out.symm Hb.out.symm, hb1⟩
    · have hb : bOk (lb s) k = false := by rw [Hp.out, decide_eq_false hn3]; rfl
      have e1 : bs [] = bs (bA (lb s) k) := by unfold bA; rw [hb]; rfl
      have e2 : bP (lb s) k = 0 := by unfold bP; rw [hb]; rfl
      have Hb := Lib.hid hb
      have E1 := Lib.hid e1
      have E2 := Lib.hid e2
      clear hb e1 e2
      rcases (show (2000 : Int) < n ∨ (¬ (2000 : Int) < n ∧ (k : Int) - 12 < n) from by omega) with h | ⟨h, h'⟩
      all_goals
        clear hn3
        go_wp2
        go_ret3
        exact ⟨ret_sib E1.out E2.out.symm Hb.out.symm, Below.refl _ _⟩

set_option maxHeartbeats 1000000 in
theorem ref_recBack (s : ByteArray) (a : Int) (w : World) (hs : s.size ≤ 9223372036854775000) (ha : -9223372036854775808 ≤ a ∧ a ≤ 9223372036854775807) :
    Calls Try.prog 37 #[.string s, .int .i64 a] w fun e w' => e = .returned (.tuple #[.string (bs (bA (lb s) a)), .int .i64 (bP (lb s) a), .bool (bOk (lb s) a)]) ∧ Below w.heap.size w w' := by
  obtain ⟨ha1, ha2⟩ := ha
  by_cases hsh : a < 12 ∨ (s.size : Int) < a
  · have h0 : bOk (lb s) a = false := by unfold bOk; rw [length_lb, decide_eq_false (by omega)]; rfl
    unfold bA bP
    rw [h0]; clear h0
    rcases (show a < 12 ∨ (¬ a < 12 ∧ (s.size : Int) < a) from by omega) with h | ⟨h, h'⟩
    all_goals
      clear hsh
      go_enter Try.func37, Try.ntmps37
      go_wp2
      go_ret3
      exact ⟨rfl, Below.refl _ _⟩
  · obtain ⟨k, rfl⟩ := Int.eq_ofNat_of_zero_le (a := a) (by omega)
    have h1 : ¬ (k : Int) < 12 := by omega
    have h1' : ¬ (s.size : Int) < k := by omega
    obtain ⟨n, hn⟩ : ∃ n, bN (lb s) (k : Int) = n := ⟨_, rfl⟩
    have hn2 : n < 4294967296 := by rw [← hn]; exact numAt_lt _ _
    have hp := bOk_parts (lb s) k (by omega) (by rw [length_lb]; omega) n hn
    have hge : getN (lb (s.extract (k - 4) k)) = n := by
      rw [← hn, bs_extract, lb_bs, show k - (k - 4) = 4 from by omega]
      unfold getN bN
      rw [Int.toNat_natCast, List.take_of_length_le (l := ((lb s).drop (k - 4)).take 4) (by simp; omega)]
    have Hn := Lib.hid hn
    have Hp := Lib.hid hp
    have Hge := Lib.hid hge
    clear hn hp hge hsh
    go_enter Try.func37, Try.ntmps37
    go_wp2_with fail
    refine (ref_Get _ _ (by rw [bs_extract]; simp [maxLen]; omega)).mono ?_
    rintro e w' ⟨rfl, rfl⟩
    rw [Hge.out]
    by_cases hn3 : n ≤ 2000 ∧ (n : Int) + 12 ≤ k
    · obtain ⟨hn3a, hn3b⟩ := hn3
      have hn3' : ¬ (2000 : Int) < n := by omega
      have hn4' : ¬ (k : Int) < (n : Int) + 12 := by omega
      go_wp2_with fail
      refine (ref_recGet _ _ _ hs (by omega)).mono ?_
      rintro e w1 ⟨rfl, hb1⟩
      by_cases hg : gOk (lb s) ((k : Int) - 12 - n) = true
      · by_cases hgn : ((gN (lb s) ((k : Int) - 12 - n) : Nat) : Int) = k
        · have hb : bOk (lb s) k = true := by rw [Hp.out, decide_eq_true ⟨hn3a, hn3b⟩, hg, hgn]; simp
          have e1 : bs (gA (lb s) ((k : Int) - 12 - n)) = bs (bA (lb s) k) := by unfold bA; rw [hb, if_pos rfl, Hn.out]
          have e2 : bP (lb s) k = (k : Int) - 12 - n := by unfold bP; rw [hb, if_pos rfl, Hn.out]
          have hgn' : (((gN (lb s) ((k : Int) - 12 - n) : Nat) : Int) != (k : Int)) = false := by rw [hgn]; simp
          have Hb := Lib.hid hb
          have E1 := Lib.hid e1
          have E2 := Lib.hid e2
          clear hb e1 e2 hgn
          rw [hg]; clear hg
          go_wp2
          go_ret3
          exact ⟨ret_sib E1.out E2.out.symm Hb.out.symm, hb1⟩
        · have hb : bOk (lb s) k = false := by
            rw [Hp.out, hg, show (((gN (lb s) ((k : Int) - 12 - n) : Nat) : Int) == (k : Int)) = false from by rw [beq_eq_false_iff_ne]; exact hgn]; simp
          have e1 : bs [] = bs (bA (lb s) k) := by unfold bA; rw [hb]; rfl
          have e2 : bP (lb s) k = 0 := by unfold bP; rw [hb]; rfl
          have hgn' : (((gN (lb s) ((k : Int) - 12 - n) : Nat) : Int) != (k : Int)) = true := by rw [bne_iff_ne]; exact hgn
          have Hb := Lib.hid hb
          have E1 := Lib.hid e1
          have E2 := Lib.hid e2
          clear hb e1 e2 hgn
          rw [hg]; clear hg
          go_wp2
          go_ret3
          exact ⟨ret_sib E1.out E2.out.symm Hb.out.symm, hb1⟩
      · have hg' : gOk (lb s) ((k : Int) - 12 - n) = false := by simpa using hg
        clear hg
        have hb : bOk (lb s) k = false := by rw [Hp.out, hg']; simp
        have e1 : bs [] = bs (bA (lb s) k) := by unfold bA; rw [hb]; rfl
        have e2 : bP (lb s) k = 0 := by unfold bP; rw [hb]; rfl
        have Hb := Lib.hid hb
        have E1 := Lib.hid e1
        have E2 := Lib.hid e2
        clear hb e1 e2
        rw [hg']; clear hg'
        go_wp2
        go_ret3
        exact ⟨ret_sib E1.out E2.out.symm Hb.out.symm, hb1⟩
    · have hb : bOk (lb s) k = false := by rw [Hp.out, decide_eq_false hn3]; rfl
      have e1 : bs [] = bs (bA (lb s) k) := by unfold bA; rw [hb]; rfl
      have e2 : bP (lb s) k = 0 := by unfold bP; rw [hb]; rfl
      have Hb := Lib.hid hb
      have E1 := Lib.hid e1
      have E2 := Lib.hid e2
      clear hb e1 e2
      rcases (show (2000 : Int) < n ∨ (¬ (2000 : Int) < n ∧ (k : Int) < (n : Int) + 12) from by omega) with h | ⟨h, h'⟩
      all_goals
        clear hn3
        go_wp2
        go_ret3
        exact ⟨ret_sib E1.out E2.out.symm Hb.out.symm, Below.refl _ _⟩
end Go.Proofs.Ytjcdkekmploelaa
