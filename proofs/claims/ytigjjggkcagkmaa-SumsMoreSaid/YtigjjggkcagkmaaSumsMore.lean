/-
  Rows.SumsMoreSaid: it makes no difference where a text is cut: the sum goes on.
-/
import Derived.Test.YtigjjggkcagkmaaSumsLaw
namespace Go.Proofs.Ytigjjggkcagkmaa
open Go.RowKit
set_option linter.unusedVariables false

theorem more_cut (s : ByteArray) (a b : Nat) (hab : a ≤ b) (hb : b ≤ s.size) :
    moreL (moreL (sumL (lb (s.extract 0 a))) (lb (s.extract a b))) (lb (s.extract b s.size)) = sumL (lb s) := by
  unfold sumL
  rw [← moreL_append, ← moreL_append]
  congr 1
  rw [bs_extract, bs_extract, bs_extract, lb_bs, lb_bs, lb_bs, Nat.sub_zero, List.drop_zero, List.take_of_length_le (l := (lb s).drop b) (by simp)]
  have e1 : (lb s).take a ++ ((lb s).drop a).take (b - a) = (lb s).take b := by
    conv => rhs; rw [show b = a + (b - a) from by omega, List.take_add]
  rw [← List.append_assoc, e1, List.take_append_drop]

set_option maxHeartbeats 1000000 in
theorem SumsMore_walk (s : ByteArray) (i j : Int) (w : World) (hs : s.size ≤ maxLen) (hi : 0 ≤ i ∧ i ≤ 65535) (hj : 0 ≤ j ∧ j ≤ 65535) :
    Calls Try.prog 11 #[.string s, .int .u16 i, .int .u16 j] w fun e w' => e = .returned (.bool true) ∧ Below w.heap.size w w' := by
  obtain ⟨x, rfl⟩ := Int.eq_ofNat_of_zero_le hi.1
  obtain ⟨y, rfl⟩ := Int.eq_ofNat_of_zero_le hj.1
  have hx : (x : Int) ≤ 65535 := hi.2
  have hy : (y : Int) ≤ 65535 := hj.2
  clear hi hj
  by_cases h : s.size ≤ 10000
  · have h' : ¬ (10000 : Int) < s.size := by omega
    obtain ⟨a, ha⟩ : ∃ a, a = x % (s.size + 1) := ⟨_, rfl⟩
    obtain ⟨b, hb⟩ : ∃ b, b = y % (s.size + 1) := ⟨_, rfl⟩
    have ha1 : a ≤ s.size := by rw [ha]; exact Nat.le_of_lt_succ (Nat.mod_lt _ (by omega))
    have hb1 : b ≤ s.size := by rw [hb]; exact Nat.le_of_lt_succ (Nat.mod_lt _ (by omega))
    have ha2 : (x : Int) % ((s.size : Int) + 1) = (a : Int) := by rw [ha]; simp
    have hb2 : (y : Int) % ((s.size : Int) + 1) = (b : Int) := by rw [hb]; simp
    clear ha hb
    go_enter Try.func11, Try.ntmps11
    go_wp2_with fail
    go_quiet (fail)
    have hm0 : moreL 0 (lb s) = sumL (lb s) := rfl
    have hms : s.size ≤ maxLen := hs
    rcases Nat.lt_or_ge b a with hlt | hge
    · have hcut := more_cut s b a (by omega) ha1
      have hl1 : (b : Int) < a := by omega
      have hl2 : ¬ (a : Int) < b := by omega
      go_wp2_with fail
      refine wp_region_below (by kernel_rfl) (by kernel_rfl) ?_
      repeat (first | go_big_quiet_skip | (go_big_quiet_want; go_big_quiet_op; go_big_quiet_on) | (go_big_quiet_want; go_big_quiet_op; apply Exists.intro; refine ⟨fun x => ?_, ?_⟩; (first | (go_at_call 31; exact calls_same x (sums_Sum _ _ (by first | assumption | (rw [bs_extract]; simp [maxLen]; omega)))) | (go_at_call 33; exact calls_same x (sums_More _ _ _ (by first | assumption | decide | (rw [bs_extract]; simp [maxLen]; omega)) (by first | exact sumL_lt _ | exact moreL_lt _ _))) | (go_at_call 33; exact calls_same x (sums_More 0 _ _ hms (by omega))) | (go_at_call 30; exact calls_below x (law_summed _))); go_big_quiet_on))
      refine wpQuiet_nil ?_
      intro _ hx
      obtain ⟨⟨w2, hb2⟩, rfl⟩ := hx
      go_wp2
      go_ret
      exact ⟨rfl, below_chain (below_drewN (Below.refl _ _) nq) hb2⟩
    · have hcut := more_cut s a b hge hb1
      have hl1 : ¬ (b : Int) < a := by omega
      rcases Nat.lt_or_ge a b with hlt | hge2
      · have hl2 : (a : Int) < b := by omega
        go_wp2_with fail
        refine wp_region_below (by kernel_rfl) (by kernel_rfl) ?_
        repeat (first | go_big_quiet_skip | (go_big_quiet_want; go_big_quiet_op; go_big_quiet_on) | (go_big_quiet_want; go_big_quiet_op; apply Exists.intro; refine ⟨fun x => ?_, ?_⟩; (first | (go_at_call 31; exact calls_same x (sums_Sum _ _ (by first | assumption | (rw [bs_extract]; simp [maxLen]; omega)))) | (go_at_call 33; exact calls_same x (sums_More _ _ _ (by first | assumption | decide | (rw [bs_extract]; simp [maxLen]; omega)) (by first | exact sumL_lt _ | exact moreL_lt _ _))) | (go_at_call 33; exact calls_same x (sums_More 0 _ _ hms (by omega))) | (go_at_call 30; exact calls_below x (law_summed _))); go_big_quiet_on))
        refine wpQuiet_nil ?_
        intro _ hx
        obtain ⟨⟨w2, hb2⟩, rfl⟩ := hx
        go_wp2
        go_ret
        exact ⟨rfl, below_chain (below_drewN (Below.refl _ _) nq) hb2⟩
      · obtain rfl : a = b := by omega
        rw [show s.extract a a = ByteArray.empty from by simp] at hcut
        have hl2 : ¬ (a : Int) < a := by omega
        go_wp2_with fail
        refine wp_region_below (by kernel_rfl) (by kernel_rfl) ?_
        repeat (first | go_big_quiet_skip | (go_big_quiet_want; go_big_quiet_op; go_big_quiet_on) | (go_big_quiet_want; go_big_quiet_op; apply Exists.intro; refine ⟨fun x => ?_, ?_⟩; (first | (go_at_call 31; exact calls_same x (sums_Sum _ _ (by first | assumption | (rw [bs_extract]; simp [maxLen]; omega)))) | (go_at_call 33; exact calls_same x (sums_More _ _ _ (by first | assumption | decide | (rw [bs_extract]; simp [maxLen]; omega)) (by first | exact sumL_lt _ | exact moreL_lt _ _))) | (go_at_call 33; exact calls_same x (sums_More 0 _ _ hms (by omega))) | (go_at_call 30; exact calls_below x (law_summed _))); go_big_quiet_on))
        refine wpQuiet_nil ?_
        intro _ hx
        obtain ⟨⟨w2, hb2⟩, rfl⟩ := hx
        go_wp2
        go_ret
        exact ⟨rfl, below_chain (below_drewN (Below.refl _ _) nq) hb2⟩
  · have h' : (10000 : Int) < s.size := by omega
    go_enter Try.func11, Try.ntmps11
    go_wp2_with fail
    refine (law_summed _).mono ?_
    rintro e w1 ⟨rfl, hb1⟩
    go_wp2
    go_ret
    exact ⟨rfl, hb1⟩
end Go.Proofs.Ytigjjggkcagkmaa
