/-
  Rows.BloomsStepSaid: of as many bits as a power of 2 the probes of a hash, as many as there are bits, are each bit once.
-/
import Derived.Test.YtpoeginnoocenaaOpenB
namespace Go.Proofs.Ytpoeginnoocenaa
open Go.RowKit
set_option linter.unusedVariables false

theorem pow_dvd_odd : ∀ (p d s : Nat), s % 2 = 1 → 2 ^ p ∣ d * s → 2 ^ p ∣ d
  | 0, d, s, _, _ => by simp
  | p + 1, d, s, hs, h => by
    have h2 : d * s % 2 = 0 := Nat.mod_eq_zero_of_dvd (Nat.dvd_trans ⟨2 ^ p, by rw [Nat.pow_succ, Nat.mul_comm]⟩ h)
    have hd : d % 2 = 0 := by
      rw [Nat.mul_mod, hs] at h2
      omega
    obtain ⟨e, rfl⟩ : ∃ e, d = 2 * e := ⟨d / 2, by omega⟩
    have h3 : 2 ^ p ∣ e * s := by
      rw [Nat.pow_succ, Nat.mul_comm (2 ^ p) 2, Nat.mul_assoc] at h
      exact Nat.dvd_of_mul_dvd_mul_left (by omega) h
    have := pow_dvd_odd p e s hs h3
    rw [Nat.pow_succ, Nat.mul_comm (2 ^ p) 2]
    exact Nat.mul_dvd_mul_left 2 this
theorem prN_pow (h i p : Nat) (hp : p ≤ 64) : prN h i (2 ^ p) = (h + i * stepN h) % 2 ^ p := by
  unfold prN
  have hd : 2 ^ p ∣ 18446744073709551616 := by
    rw [show (18446744073709551616 : Nat) = 2 ^ 64 from rfl]
    exact Nat.pow_dvd_pow 2 hp
  rw [Nat.mod_mod_of_dvd _ hd, Nat.add_mod, Nat.mod_mod_of_dvd _ hd, ← Nat.add_mod]
theorem prN_inj (h i j p : Nat) (hp : p ≤ 64) (hij : i < j) (hj : j < 2 ^ p) : prN h i (2 ^ p) ≠ prN h j (2 ^ p) := by
  rw [prN_pow h i p hp, prN_pow h j p hp]
  intro e
  have h1 : 2 ^ p ∣ (h + j * stepN h) - (h + i * stepN h) := Nat.dvd_of_mod_eq_zero (Nat.sub_mod_eq_zero_of_mod_eq e.symm)
  have h2 : (h + j * stepN h) - (h + i * stepN h) = (j - i) * stepN h := by rw [Nat.sub_mul]; omega
  rw [h2] at h1
  have h3 := Nat.le_of_dvd (by omega) (pow_dvd_odd p (j - i) (stepN h) (stepN_odd h) h1)
  omega
theorem prN_back (h p : Nat) (hp : p ≤ 64) : prN h (2 ^ p) (2 ^ p) = prN h 0 (2 ^ p) := by
  rw [prN_pow h _ p hp, prN_pow h _ p hp, Nat.add_mod]
  simp
theorem probesL_new (h p k : Nat) (hp : p ≤ 64) (hk : k < 2 ^ p) : (probesL h (2 ^ p) k).contains (prN h k (2 ^ p)) = false := by
  rcases hc : (probesL h (2 ^ p) k).contains (prN h k (2 ^ p)) with _ | _
  · rfl
  · exfalso
    simp only [List.contains_eq_mem, decide_eq_true_eq] at hc
    obtain ⟨i, hi, e⟩ := List.mem_map.1 hc
    exact prN_inj h i k p hp (List.mem_range.1 hi) hk e

set_option maxHeartbeats 4000000 in
theorem BloomsStep_walk (h : Int) (pw : Int) (w : World) (hh : 0 ≤ h ∧ h ≤ 18446744073709551615) (hpw : 0 ≤ pw ∧ pw ≤ 255) :
    Calls Try.prog 7 #[.int .u64 h, .int .u8 pw] w fun e w' => e = .returned (.bool true) ∧ Below w.heap.size w w' := by
  obtain ⟨h, rfl⟩ := Int.eq_ofNat_of_zero_le hh.1
  obtain ⟨m, rfl⟩ := Int.eq_ofNat_of_zero_le hpw.1
  have hh64 : h < 18446744073709551616 := by have := hh.2; omega
  have hm : m ≤ 255 := by have := hpw.2; omega
  clear hh hpw
  obtain ⟨p, hp⟩ : ∃ p, p = m % 11 := ⟨_, rfl⟩
  have hp1 : p ≤ 10 := by omega
  have hp2 : (m : Int) % 11 = (p : Int) := by rw [hp, Int.natCast_emod]; congr 1
  have m1 : (m : Int) ≤ 255 := by omega
  have p1 : (p : Int) ≤ 10 := by omega
  have hN : 2 ^ p ≤ 1024 := by have := Nat.pow_le_pow_right (n := 2) (by omega) hp1; simpa using this
  have hN0 : 0 < 2 ^ p := Nat.two_pow_pos p
  have hpos := Nat.two_pow_pos p
  have hnew := fun k (hk : k < 2 ^ p) => probesL_new h p k (by omega) hk
  have hback := prN_back h p (by omega)
  have hpw : (2 : Int) ^ p = ((2 ^ p : Nat) : Int) := by simp
  obtain ⟨N, hNe⟩ : ∃ N, N = 2 ^ p := ⟨_, rfl⟩
  rw [← hNe] at hN hN0 hnew hback hpw
  obtain ⟨w1, hmk, hrow1, hb1⟩ := make_bools w N (by omega)
  have hwrap : IntKind.i64.wrap (2 ^ p) = (N : Int) := by
    rw [hpw]; unfold IntKind.wrap; simp [IntKind.bits, IntKind.signed]; omega
  have Hnew := Lib.hid hnew
  have Hback := Lib.hid hback
  clear hp hNe hpos hnew hback
  go_enter Try.func7, Try.ntmps7
  go_wp2
  obtain ⟨G, hG⟩ : ∃ G, G = w.heap.size := ⟨_, rfl⟩
  rw [← hG] at hrow1 ⊢
  have hwG : w.heap.size ≤ G := by omega
  have HG := Lib.hid hG
  clear hmk hG
  simp only [hp2]
  go_loopw [7] (fun i wr => ∃ k : Nat, k ≤ N ∧ i = .int .i64 k ∧ Row wr G 4 (boolsC (orList (fun _ => false) (probesL h N k)) N) ∧ Below w.heap.size w wr) (fun i _ => N - (intOf i).toNat)
  case atStart => exact ⟨0, by omega, rfl, by simpa [probesL, orList_nil] using hrow1, hb1⟩
  case round =>
    obtain ⟨k, hk, rfl, hrow, hbr⟩ := hrel
    clear hrow1 hb1
    by_cases hlt : k < N
    · have ep := prB_nat h k N hN0
      have hlt2 := prN_lt h k hN0
      have hps := probesL_succ h N k
      have hnew := Hnew.out k hlt
      obtain ⟨x, hx⟩ : ∃ x, x = prN h k N := ⟨_, rfl⟩
      rw [← hx] at ep hlt2 hps hnew
      have hcb := hrow.cell x (by simp; exact hlt2)
      rw [boolsC_get] at hcb
      have hoff : orList (fun _ => false) (probesL h N k) x = false := by unfold orList; rw [hnew]; rfl
      rw [hoff] at hcb
      have hfz := hrow.frozen x (by simp; exact hlt2)
      have hset := hrow.set x (.bool true)
      rw [boolsC_set _ _ _ hlt2, ← orList_snoc, ← hps] at hset
      have hbs := hbr.setCell (p := ⟨G, x, none⟩) hwG (.bool true)
      have i1 : (k : Int) < N := by omega
      have dx : decide ((N : Int) ≤ x) = false := by rw [decide_eq_false_iff_not]; omega
      have x1 : (x : Int) < N := by omega
      have Hep := Lib.hid ep
      have Hset := Lib.hid hset
      have Hbs := Lib.hid hbs
      clear ep hset hbs hps hx hrow hoff hnew
      go_wp2_with fail
      refine (blooms_Probe _ _ _ _ hh64 (by omega) (by omega)).mono ?_
      rintro e w' ⟨rfl, rfl⟩
      rw [Hep.out]
      go_wp2
      go_roundw
      case rel => exact ⟨k + 1, by omega, by go_num, Hset.out, Hbs.out⟩
      case measure => simp [intOf]; omega
    · obtain rfl : k = N := by omega
      have e1 := prB_nat h k k hN0
      have e2 := prB_nat h 0 k hN0
      have E1 := Lib.hid e1
      have E2 := Lib.hid e2
      clear e1 e2 hrow
      go_wp2_with fail
      refine (blooms_Probe _ _ _ _ hh64 (by omega) (by omega)).mono ?_
      rintro e w' ⟨rfl, rfl⟩
      rw [E1.out, Hback.out]
      go_wp2_with fail
      refine (blooms_Probe _ _ _ _ hh64 (by decide) (by omega)).mono ?_
      rintro e w' ⟨rfl, rfl⟩
      rw [show (0 : Int) = ((0 : Nat) : Int) from rfl, E2.out]
      go_wp2_with fail
      refine (law_bloomed _).mono ?_
      rintro e w6 ⟨rfl, hb6⟩
      go_wp2
      go_ret
      exact ⟨rfl, below_more hbr hb6 (Nat.le_refl _)⟩
end Go.Proofs.Ytpoeginnoocenaa
