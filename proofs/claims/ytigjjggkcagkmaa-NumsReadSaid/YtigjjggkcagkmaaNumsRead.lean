/-
  Rows.NumsReadSaid: what is put is read, whatever stands behind it; of what is cut off nothing is.
-/
import Derived.Test.YtigjjggkcagkmaaNumsPut
namespace Go.Proofs.Ytigjjggkcagkmaa
open Go.RowKit
set_option linter.unusedVariables false

theorem textL_short (l : List UInt8) (h : l.length ≤ 65535) : textL l = be 2 l.length ++ l := by unfold textL; rw [if_neg (by omega)]
theorem num_text (l r : List UInt8) (h : l.length ≤ 65535) : num ((be 2 l.length ++ l ++ r).take 2) = l.length := by
  have e : (be 2 l.length ++ l ++ r).take 2 = be 2 l.length := by
    rw [List.append_assoc, List.take_append_of_le_length (by simp)]
    exact List.take_of_length_le (by simp)
  rw [e, num_be]; omega
theorem readOk_text (l r : List UInt8) (h : l.length ≤ 65535) : readOk (textL l ++ r) = true := by
  rw [textL_short l h]; unfold readOk; rw [num_text l r h]; simp
theorem drop2_text (l r : List UInt8) : (be 2 l.length ++ l ++ r).drop 2 = l ++ r := by
  rw [List.append_assoc]; exact List.drop_left' (by simp)
theorem readA_text (l r : List UInt8) (h : l.length ≤ 65535) : readA (textL l ++ r) = l := by
  unfold readA; rw [readOk_text l r h, if_pos rfl, textL_short l h, num_text l r h, drop2_text]; simp
theorem readB_text (l r : List UInt8) (h : l.length ≤ 65535) : readB (textL l ++ r) = r := by
  unfold readB; rw [readOk_text l r h, if_pos rfl, textL_short l h, num_text l r h, ← List.drop_drop, drop2_text]; simp
theorem readOk_cut (l : List UInt8) (j : Nat) (h : l.length ≤ 65535) (hj : j < l.length + 2) : readOk ((textL l).take j) = false := by
  rw [textL_short l h]; unfold readOk
  by_cases h2 : 2 ≤ j
  · have e : ((be 2 l.length ++ l).take j).take 2 = be 2 l.length := by
      rw [List.take_take, Nat.min_eq_left h2, List.take_append_of_le_length (by simp)]
      exact List.take_of_length_le (by simp)
    rw [e, num_be]; simp; omega
  · simp; omega

set_option maxHeartbeats 1000000 in
theorem NumsRead_walk (s r : ByteArray) (cut : Int) (w : World) (hs : s.size ≤ maxLen) (hr : r.size ≤ maxLen) (hc : 0 ≤ cut ∧ cut ≤ 65535) :
    Calls Try.prog 6 #[.string s, .string r, .int .u16 cut] w fun e w' => e = .returned (.bool true) ∧ Below w.heap.size w w' := by
  obtain ⟨c, rfl⟩ := Int.eq_ofNat_of_zero_le hc.1
  have hc1 : (c : Int) ≤ 65535 := hc.2
  clear hc
  by_cases h : s.size ≤ 2000
  · have h' : ¬ (2000 : Int) < s.size := by omega
    by_cases h2 : r.size ≤ 1000
    · have h2' : ¬ (1000 : Int) < r.size := by omega
      have hl : (lb s).length ≤ 65535 := by rw [length_lb]; omega
      obtain ⟨T, hT⟩ : ∃ T, T = textL (lb s) := ⟨_, rfl⟩
      have hTl : T.length = s.size + 2 := by rw [hT, textL_short _ hl]; simp; omega
      have HT := Lib.hid hT
      clear hT
      go_enter Try.func6, Try.ntmps6
      go_wp2_with fail
      refine (nums_Text _ _ (by omega)).mono ?_
      rintro e w1 ⟨rfl, hb1⟩
      rw [← HT.out]
      go_wp2_with fail
      refine (nums_Read _ _ ?_).mono ?_
      · rw [bs_append_r]; simp; omega
      rintro e w2 ⟨rfl, hb2⟩
      rw [bs_append_r, lb_bs, HT.out, readOk_text _ _ hl, readA_text _ _ hl, readB_text _ _ hl, bs_lb, bs_lb, ← HT.out]
      have hm0 : 0 ≤ (c : Int) % ((s.size : Int) + 2) := Int.emod_nonneg _ (by omega)
      have hm1 : (c : Int) % ((s.size : Int) + 2) ≤ (s.size : Int) + 2 := Int.le_of_lt (Int.emod_lt_of_pos _ (by omega))
      have hm2 : c % (s.size + 2) < s.size + 2 := Nat.mod_lt _ (by omega)
      go_wp2_with fail
      refine (nums_Read _ _ ?_).mono ?_
      · rw [bs_extract]; simp; omega
      rintro e w3 ⟨rfl, hb3⟩
      have hno : readOk (lb ((bs T).extract 0 (c % (s.size + 2)))) = false := by
        rw [bs_extract, lb_bs, lb_bs, HT.out]
        exact readOk_cut _ _ hl (by rw [length_lb]; omega)
      have hnA : readA (lb ((bs T).extract 0 (c % (s.size + 2)))) = [] := by unfold readA; rw [hno]; rfl
      have hnB : readB (lb ((bs T).extract 0 (c % (s.size + 2)))) = [] := by unfold readB; rw [hno]; rfl
      rw [hno, hnA, hnB]; clear hno hnA hnB
      go_wp2_with fail
      refine (law_put _).mono ?_
      rintro e w5 ⟨rfl, hb5⟩
      go_wp2
      go_ret
      refine ⟨rfl, ?_⟩
      repeat (first | assumption | (refine below_chain (by assumption) ?_))
    · have h2' : (1000 : Int) < r.size := by omega
      go_enter Try.func6, Try.ntmps6
      go_wp2_with fail
      refine (law_put _).mono ?_
      rintro e w1 ⟨rfl, hb1⟩
      go_wp2
      go_ret
      exact ⟨rfl, hb1⟩
  · have h' : (2000 : Int) < s.size := by omega
    go_enter Try.func6, Try.ntmps6
    go_wp2_with fail
    refine (law_put _).mono ?_
    rintro e w1 ⟨rfl, hb1⟩
    go_wp2
    go_ret
    exact ⟨rfl, hb1⟩
end Go.Proofs.Ytigjjggkcagkmaa
