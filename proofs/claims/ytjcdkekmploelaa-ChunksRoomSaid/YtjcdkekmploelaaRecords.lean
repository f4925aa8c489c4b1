/-
  The functions of package records, and the reference's, by their contracts: Put, Get, Back.
-/
import Derived.Test.YtjcdkekmploelaaSumsOpen
import Derived.Test.YtjcdkekmploelaaRec
namespace Go.Proofs.Ytjcdkekmploelaa
open Go.RowKit
set_option linter.unusedVariables false

theorem ret_si {a a' : ByteArray} {i i' : Int} (h1 : a = a') (h2 : i = i') : Ending.returned (.tuple #[.string a, .int .i64 i]) = .returned (.tuple #[.string a', .int .i64 i']) := by rw [h1, h2]
theorem ret_sib {a a' : ByteArray} {i i' : Int} {o o' : Bool} (h1 : a = a') (h2 : i = i') (h3 : o = o') : Ending.returned (.tuple #[.string a, .int .i64 i, .bool o]) = .returned (.tuple #[.string a', .int .i64 i', .bool o']) := by rw [h1, h2, h3]
theorem putL_four (n : Nat) : putL n 4 = be 4 n := by unfold putL; rw [if_neg (by omega)]; rfl

theorem records_size (n : Nat) (w : World) (hn : (n : Int) ≤ 9223372036854775807) :
    Calls Try.prog 33 #[.int .i64 n] w fun e w' => e = .returned (.string (bs (be 4 n))) ∧ Below w.heap.size w w' := by
  go_enter Try.func33, Try.ntmps33
  go_wp2_with fail
  refine (nums_Put _ _ _ (by omega) (by omega)).mono ?_
  rintro e w1 ⟨rfl, hb1⟩
  go_wp2
  go_ret
  exact ⟨rfl, hb1⟩

set_option maxHeartbeats 400000 in
theorem records_Put (s : ByteArray) (w : World) (hs : s.size ≤ 9223372036854775000) :
    Calls Try.prog 17 #[.string s] w fun e w' => e = .returned (.tuple #[.string (bs (putR (lb s))), .int .i64 (putE (lb s))]) ∧ Below w.heap.size w w' := by
  by_cases h : s.size ≤ 2000
  · have h' : ¬ (2000 : Int) < s.size := by omega
    have e1 : putR (lb s) = recL (lb s) := by unfold putR; rw [if_neg (by rw [length_lb]; omega)]
    have e2 : putE (lb s) = 0 := by unfold putE; rw [if_neg (by rw [length_lb]; omega)]
    rw [e1, e2]; clear e1 e2
    go_enter Try.func17, Try.ntmps17
    go_wp2_with fail
    refine (records_size _ _ (by omega)).mono ?_
    rintro e w1 ⟨rfl, hb1⟩
    go_wp2_with fail
    refine (sums_Seal _ _ (by rw [bs_append_r]; simp; omega)).mono ?_
    rintro e w2 ⟨rfl, hb2⟩
    go_wp2_with fail
    refine (records_size _ _ (by omega)).mono ?_
    rintro e w3 ⟨rfl, hb3⟩
    have hl : (sealL (lb (bs (be 4 s.size) ++ s))).length = s.size + 8 := by rw [sealL_length, bs_append_r, lb_bs]; simp; omega
    go_wp2
    go_ret2
    refine ⟨ret_si ?_ rfl, ?_⟩
    · rw [bs_append, bs_append_r, lb_bs]; unfold recL; rw [length_lb]
    repeat (first | assumption | exact Below.refl _ _ | (refine below_chain (by assumption) ?_))
  · have h' : (2000 : Int) < s.size := by omega
    have e1 : putR (lb s) = [] := by unfold putR; rw [if_pos (by rw [length_lb]; omega)]
    have e2 : putE (lb s) = 3 := by unfold putE; rw [if_pos (by rw [length_lb]; omega)]
    rw [e1, e2]; clear e1 e2
    go_enter Try.func17, Try.ntmps17
    go_wp2
    go_ret2
    exact ⟨rfl, Below.refl _ _⟩

set_option maxHeartbeats 400000 in
theorem ref_recPut (s : ByteArray) (w : World) (hs : s.size ≤ 9223372036854775000) :
    Calls Try.prog 18 #[.string s] w fun e w' => e = .returned (.tuple #[.string (bs (putR (lb s))), .int .i64 (putE (lb s))]) ∧ Below w.heap.size w w' := by
  by_cases h : s.size ≤ 2000
  · have h' : ¬ (2000 : Int) < s.size := by omega
    have e1 : putR (lb s) = recL (lb s) := by unfold putR; rw [if_neg (by rw [length_lb]; omega)]
    have e2 : putE (lb s) = 0 := by unfold putE; rw [if_neg (by rw [length_lb]; omega)]
    rw [e1, e2]; clear e1 e2
    go_enter Try.func18, Try.ntmps18
    go_wp2_with fail
    refine (ref_Put _ _ _ (by omega) (by omega)).mono ?_
    rintro e w1 ⟨rfl, hb1⟩
    have ep : putL ((s.size : Nat) : Int).toNat 4 = be 4 s.size := putL_four _
    rw [ep]; clear ep
    go_wp2_with fail
    refine (ref_Seal _ _ (by rw [bs_append_r]; simp; omega)).mono ?_
    rintro e w2 ⟨rfl, hb2⟩
    have hl : (sealL (lb (bs (be 4 s.size) ++ s))).length = s.size + 8 := by rw [sealL_length, bs_append_r, lb_bs]; simp; omega
    go_wp2
    go_ret2
    refine ⟨ret_si ?_ rfl, ?_⟩
    · rw [bs_append, bs_append_r, lb_bs]; unfold recL; rw [length_lb]
    repeat (first | assumption | exact Below.refl _ _ | (refine below_chain (by assumption) ?_))
  · have h' : (2000 : Int) < s.size := by omega
    have e1 : putR (lb s) = [] := by unfold putR; rw [if_pos (by rw [length_lb]; omega)]
    have e2 : putE (lb s) = 3 := by unfold putE; rw [if_pos (by rw [length_lb]; omega)]
    rw [e1, e2]; clear e1 e2
    go_enter Try.func18, Try.ntmps18
    go_wp2
    go_ret2
    exact ⟨rfl, Below.refl _ _⟩

theorem gOk_short (s : ByteArray) (a : Int) (h : a < 0 ∨ (s.size : Int) - 12 < a) : gOk (lb s) a = false := by
  unfold gOk
  rcases h with h | h
  · rw [decide_eq_false (by omega)]; rfl
  · by_cases h0 : 0 ≤ a
    · rw [decide_eq_true h0, Bool.true_and]
      rcases hr : recAt (lb s) a.toNat with _ | _
      · rfl
      · have := recAt_bounds hr
        rw [length_lb] at this; omega
    · rw [decide_eq_false h0]; rfl
theorem gOk_parts (l : List UInt8) (a n : Nat) (hn : numAt l a = n) (h12 : a + 12 ≤ l.length) :
    gOk l (a : Int) = (decide (n ≤ 2000) && (decide (a + n + 12 ≤ l.length) && ((l.drop a).take (n + 12) == recL ((l.drop (a + 4)).take n)))) := by
  unfold gOk recAt
  rw [decide_eq_true (by omega : (0 : Int) ≤ (a : Int)), Bool.true_and, Int.toNat_natCast, decide_eq_true h12, Bool.true_and, hn]

set_option maxHeartbeats 1000000 in
theorem records_Get (s : ByteArray) (a : Int) (w : World) (hs : s.size ≤ 9223372036854775000) (ha : -9223372036854775808 ≤ a ∧ a ≤ 9223372036854775807) :
    Calls Try.prog 21 #[.string s, .int .i64 a] w fun e w' => e = .returned (.tuple #[.string (bs (gA (lb s) a)), .int .i64 (gN (lb s) a), .bool (gOk (lb s) a)]) ∧ Below w.heap.size w w' := by
  obtain ⟨ha1, ha2⟩ := ha
  by_cases hsh : a < 0 ∨ (s.size : Int) - 12 < a
  · have h0 := gOk_short s a hsh
    unfold gA gN
    rw [h0]; clear h0
    rcases hsh with h | h
    · go_enter Try.func21, Try.ntmps21
      go_wp2
      go_ret3
      exact ⟨rfl, Below.refl _ _⟩
    · by_cases h0 : a < 0
      · go_enter Try.func21, Try.ntmps21
        go_wp2
        go_ret3
        exact ⟨rfl, Below.refl _ _⟩
      · go_enter Try.func21, Try.ntmps21
        go_wp2
        go_ret3
        exact ⟨rfl, Below.refl _ _⟩
  · obtain ⟨k, rfl⟩ := Int.eq_ofNat_of_zero_le (a := a) (by omega)
    have h1 : (k : Int) ≤ (s.size : Int) - 12 := by omega
    have hl : k + 12 ≤ (lb s).length := by rw [length_lb]; omega
    obtain ⟨n, hn⟩ : ∃ n, n = numAt (lb s) k := ⟨_, rfl⟩
    have hn2 : n < 4294967296 := by rw [hn]; exact numAt_lt _ _
    have hp := gOk_parts (lb s) k n hn.symm hl
    have hge : getN (lb (s.extract k (k + 4))) = n := by
      rw [hn, bs_extract, lb_bs, show k + 4 - k = 4 from by omega]
      unfold getN numAt
      rw [List.take_of_length_le (l := ((lb s).drop k).take 4) (by simp; omega)]
    have hop := recAt_open (lb s) k n hn.symm
    have Hn := Lib.hid hn
    have Hp := Lib.hid hp
    have Hge := Lib.hid hge
    have Hop := Lib.hid hop
    clear hn hp hge hop hsh
    go_enter Try.func21, Try.ntmps21
    go_wp2_with fail
    refine (nums_Get _ _ (by rw [bs_extract]; simp [maxLen]; omega)).mono ?_
    rintro e w' ⟨rfl, rfl⟩
    rw [Hge.out]
    by_cases hn3 : n ≤ 2000
    · have hn3' : ¬ (2000 : Int) < n := by omega
      by_cases hn4 : k + n + 12 ≤ s.size
      · have hn4' : ¬ (s.size : Int) - 12 - k < n := by omega
        obtain ⟨X, hX⟩ : ∃ X, X = ((lb s).drop k).take (n + 8) := ⟨_, rfl⟩
        have hXl : X.length = n + 8 := by rw [hX]; simp; omega
        have hex : lb (s.extract k (k + n + 8)) = X := by rw [bs_extract, lb_bs, hX, show k + n + 8 - k = n + 8 from by omega]
        have hexs : (s.extract k (k + n + 8)).size = n + 8 := by rw [← length_lb, hex, hXl]
        have hsame : ((s.extract (k + n + 8) (k + n + 12)).toList == (s.extract k (k + 4)).toList) = (((lb s).drop (k + n + 8)).take 4 == ((lb s).drop k).take 4) := by
          rw [bs_extract, bs_extract, toList_bs, toList_bs, show k + n + 12 - (k + n + 8) = 4 from by omega, show k + 4 - k = 4 from by omega]
        have hop := Hop.out (by rw [length_lb]; exact hn4)
        rw [← hX] at hop
        have hbody := open_body (lb s) k n (by rw [length_lb]; exact hn4)
        rw [← hX] at hbody
        have hgo : gOk (lb s) k = (openOk X && ((s.extract (k + n + 8) (k + n + 12)).toList == (s.extract k (k + 4)).toList)) := by
          rw [Hp.out, decide_eq_true hn3, decide_eq_true (by rw [length_lb]; exact hn4), Bool.true_and, Bool.true_and, hsame, hop]
        have Hex := Lib.hid hex
        have Hexs := Lib.hid hexs
        have Hbody := Lib.hid hbody
        have Hgo := Lib.hid hgo
        have HX := Lib.hid hX
        have hA : openOk X = true → (openA X).length = n + 4 := fun h => by unfold openA; rw [h, if_pos rfl]; simp; omega
        have HA := Lib.hid hA
        clear hex hexs hbody hgo hX hop hsame hXl Hop hA
        go_wp2_with fail
        refine (sums_Open _ _ (by rw [Hexs.out]; omega)).mono ?_
        rintro e w1 ⟨rfl, hb1⟩
        rw [Hex.out]
        by_cases ho : openOk X = true
        · by_cases hsm : ((s.extract (k + n + 8) (k + n + 12)).toList == (s.extract k (k + 4)).toList) = true
          · have hg : gOk (lb s) k = true := by rw [Hgo.out, ho, hsm]; rfl
            have e1 : bs ((openA X).drop 4) = bs (gA (lb s) k) := by
              unfold gA; rw [hg, if_pos rfl, Hbody.out ho, Int.toNat_natCast, ← Hn.out]
            have e2 : gN (lb s) k = k + n + 12 := by unfold gN; rw [hg, if_pos rfl, Int.toNat_natCast, ← Hn.out]
            have hAl := HA.out ho
            have hAl4 : ¬ (((openA X).length : Int) < 4) := by omega
            have Hg := Lib.hid hg
            have E1 := Lib.hid e1
            have E2 := Lib.hid e2
            clear hg e1 e2 Hgo
            go_wp2_with fail
            go_quiet (fail)
            go_wp2_with fail
            go_ret3
            refine ⟨ret_sib ?_ ?_ Hg.out.symm, below_drewN hb1 _⟩
            · rw [← E1.out, bs_extract, lb_bs, List.take_of_length_le (by simp; omega)]
            · rw [E2.out]; omega
          · have hsm' : ((s.extract (k + n + 8) (k + n + 12)).toList == (s.extract k (k + 4)).toList) = false := by simpa using hsm
            clear hsm
            have hg : gOk (lb s) k = false := by rw [Hgo.out, ho, hsm']; rfl
            have e1 : bs [] = bs (gA (lb s) k) := by unfold gA; rw [hg]; rfl
            have e2 : gN (lb s) k = 0 := by unfold gN; rw [hg]; rfl
            have Hg := Lib.hid hg
            have E1 := Lib.hid e1
            have E2 := Lib.hid e2
            clear hg e1 e2 Hgo
            go_wp2_with fail
            go_quiet (fail)
            go_wp2_with fail
            go_ret3
            exact ⟨ret_sib E1.out (by rw [E2.out]; rfl) Hg.out.symm, below_drewN hb1 _⟩
        · have ho' : openOk X = false := by simpa using ho
          clear ho
          have hg : gOk (lb s) k = false := by rw [Hgo.out, ho']; rfl
          have e1 : bs [] = bs (gA (lb s) k) := by unfold gA; rw [hg]; rfl
          have e2 : gN (lb s) k = 0 := by unfold gN; rw [hg]; rfl
          have Hg := Lib.hid hg
          have E1 := Lib.hid e1
          have E2 := Lib.hid e2
          clear hg e1 e2 Hgo
          go_wp2_with fail
          go_quiet (fail)
          go_wp2_with fail
          go_ret3
          exact ⟨ret_sib E1.out (by rw [E2.out]; rfl) Hg.out.symm, below_drewN hb1 _⟩
      · have hn4' : (s.size : Int) - 12 - k < n := by omega
        have hg : gOk (lb s) k = false := by rw [Hp.out, decide_eq_false (p := k + n + 12 ≤ (lb s).length) (by rw [length_lb]; exact hn4)]; simp
        have e1 : bs [] = bs (gA (lb s) k) := by unfold gA; rw [hg]; rfl
        have e2 : gN (lb s) k = 0 := by unfold gN; rw [hg]; rfl
        have Hg := Lib.hid hg
        have E1 := Lib.hid e1
        have E2 := Lib.hid e2
        clear hg e1 e2
        go_wp2
        go_ret3
        exact ⟨ret_sib E1.out (by rw [E2.out]; rfl) Hg.out.symm, Below.refl _ _⟩
    · have hn3' : (2000 : Int) < n := by omega
      have hg : gOk (lb s) k = false := by rw [Hp.out, decide_eq_false hn3]; rfl
      have e1 : bs [] = bs (gA (lb s) k) := by unfold gA; rw [hg]; rfl
      have e2 : gN (lb s) k = 0 := by unfold gN; rw [hg]; rfl
      have Hg := Lib.hid hg
      have E1 := Lib.hid e1
      have E2 := Lib.hid e2
      clear hg e1 e2
      go_wp2
      go_ret3
      exact ⟨ret_sib E1.out (by rw [E2.out]; rfl) Hg.out.symm, Below.refl _ _⟩
end Go.Proofs.Ytjcdkekmploelaa
