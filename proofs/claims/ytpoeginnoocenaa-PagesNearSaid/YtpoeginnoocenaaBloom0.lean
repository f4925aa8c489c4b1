/-
  hashes.Step and blooms.Probe, and the reference's: their contracts.
-/
import Derived.Test.YtpoeginnoocenaaPlain
import Derived.Test.YtpoeginnoocenaaRegion
import Derived.Test.YtpoeginnoocenaaNums
namespace Go.Proofs.Ytpoeginnoocenaa
open Go.RowKit
set_option linter.unusedVariables false

def rotN (h : Nat) : Nat := h / 131072 + h % 131072 * 140737488355328
def stepN (h : Nat) : Nat := rotN h + 1 - rotN h % 2
theorem rotN_lt {h : Nat} (hh : h < 18446744073709551616) : rotN h < 18446744073709551616 := by unfold rotN; omega
theorem stepN_lt {h : Nat} (hh : h < 18446744073709551616) : stepN h < 18446744073709551616 := by
  have := rotN_lt hh
  unfold stepN; omega
theorem or_one (s : Nat) : s ||| 1 = s + 1 - s % 2 := by
  have h1 : (s ||| 1) / 2 = s / 2 := by rw [Nat.or_div_two]; simp
  have h2 : (s ||| 1) % 2 = 1 := by
    rw [Nat.or_mod_two_eq_one]; simp
  omega
theorem stepN_odd (h : Nat) : stepN h % 2 = 1 := by unfold stepN; omega
theorem rot_or (h : Nat) (hh : h < 18446744073709551616) : h % 131072 * 140737488355328 ||| h / 131072 = rotN h := by
  have := Nat.two_pow_add_eq_or_of_lt (i := 47) (b := h / 131072) (by omega) (h % 131072)
  unfold rotN
  rw [show (2 : Nat) ^ 47 = 140737488355328 from rfl] at this
  rw [Nat.mul_comm (h % 131072), ← this]; omega

set_option maxHeartbeats 1000000 in
theorem ref_Step (h : Nat) (w : World) (hh : h < 18446744073709551616) :
    Calls Try.prog 30 #[.int .u64 h] w fun e w' => e = .returned (.int .u64 (stepN h : Nat)) ∧ w = w' := by
  go_enter Try.func30, Try.ntmps30
  go_wp2
  go_ret
  refine ⟨ret_int ?_, rfl⟩
  have hl := rotN_lt hh
  have e : ((h : Int) / 131072 + (h : Int) % 131072 * 140737488355328) = ((rotN h : Nat) : Int) := by unfold rotN; omega
  rw [e, IntKind.wrap_u64, IntKind.wrap_u64]
  unfold stepN
  generalize rotN h = s at *
  omega
theorem bits_Rotate (h : Nat) (w : World) (hh : h < 18446744073709551616) :
    Calls Try.prog 46 #[.int .u64 h, .int .i64 (-17)] w fun e w' => e = .returned (.int .u64 (rotN h : Nat)) ∧ w = w' := by
  have hk : bits BinOp.and IntKind.u64 (IntKind.u64.wrap (-17)) 63 = 47 := by decide +kernel
  have e1 : IntKind.u64.wrap ((h : Int) * 140737488355328) = ((h % 131072 * 140737488355328 : Nat) : Int) := by rw [IntKind.wrap_u64]; omega
  have e2 : (h : Int) / 131072 = ((h / 131072 : Nat) : Int) := by omega
  have e3 := u64_or_nat (h % 131072 * 140737488355328) (h / 131072) (by omega) (by omega)
  rw [rot_or h hh] at e3
  have E1 := Lib.hid e1
  have E2 := Lib.hid e2
  have E3 := Lib.hid e3
  clear e1 e2 e3
  go_enter Try.func46, Try.ntmps46
  go_wp2
  go_ret
  refine ⟨ret_int ?_, rfl⟩
  rw [E1.out, E2.out, E3.out]
theorem hashes_Step (h : Nat) (w : World) (hh : h < 18446744073709551616) :
    Calls Try.prog 29 #[.int .u64 h] w fun e w' => e = .returned (.int .u64 (stepN h : Nat)) ∧ w = w' := by
  have e3 := u64_or_nat (rotN h) 1 (rotN_lt hh) (by omega)
  rw [or_one] at e3
  have E3 := Lib.hid e3
  clear e3
  go_enter Try.func29, Try.ntmps29
  go_wp2_with fail
  refine (bits_Rotate _ _ hh).mono ?_
  rintro e w' ⟨rfl, rfl⟩
  go_wp2
  go_ret
  exact ⟨ret_int E3.out, rfl⟩

/-- Which bit a probe asks. -/
def prN (h i bits : Nat) : Nat := ((h + i * stepN h % 18446744073709551616) % 18446744073709551616) % bits
def prB (h : Nat) (i bits : Int) : Nat := if bits < 1 ∨ i < 0 then 0 else prN h i.toNat bits.toNat
theorem prB_nat (h i bits : Nat) (hb : 0 < bits) : prB h i bits = prN h i bits := by unfold prB; rw [if_neg (by omega)]; simp
theorem prN_lt (h i : Nat) {bits : Nat} (hb : 0 < bits) : prN h i bits < bits := Nat.mod_lt _ hb

theorem probe_walk (h k b : Nat) (hb : 0 < b) (hb2 : (b : Int) ≤ 9223372036854775807) :
    wrap64 ((IntKind.u64.wrap ((h : Int) + IntKind.u64.wrap ((k : Int) * (stepN h : Nat)))).tmod (b : Int)) = ((prN h k b : Nat) : Int) := by
  have e1 : (k : Int) * (stepN h : Nat) = ((k * stepN h : Nat) : Int) := by simp
  have e2 : ((k * stepN h : Nat) : Int) % 18446744073709551616 = ((k * stepN h % 18446744073709551616 : Nat) : Int) := by omega
  have e3 : ((h : Int) + ((k * stepN h % 18446744073709551616 : Nat) : Int)) % 18446744073709551616 = (((h + k * stepN h % 18446744073709551616) % 18446744073709551616 : Nat) : Int) := by omega
  rw [IntKind.wrap_u64, IntKind.wrap_u64, e1, e2, e3, ← Int.ofNat_tmod]
  have := prN_lt h k hb
  unfold prN at *
  unfold wrap64
  omega

set_option maxHeartbeats 1000000 in
theorem blooms_Probe (h : Nat) (i bits : Int) (w : World) (hh : h < 18446744073709551616) (hi : -9223372036854775808 ≤ i ∧ i ≤ 9223372036854775807) (hb : -9223372036854775808 ≤ bits ∧ bits ≤ 9223372036854775807) :
    Calls Try.prog 15 #[.int .u64 h, .int .i64 i, .int .i64 bits] w fun e w' => e = .returned (.int .i64 (prB h i bits : Nat)) ∧ w = w' := by
  by_cases hno : bits < 1 ∨ i < 0
  · have e : prB h i bits = 0 := if_pos hno
    rw [e]; clear e
    rcases (show bits < 1 ∨ (¬ bits < 1 ∧ i < 0) from by omega) with h1 | ⟨h1, h2⟩
    all_goals
      clear hno
      go_enter Try.func15, Try.ntmps15
      go_wp2
      go_ret
      exact ⟨rfl, rfl⟩
  · obtain ⟨k, rfl⟩ := Int.eq_ofNat_of_zero_le (a := i) (by omega)
    obtain ⟨b, rfl⟩ := Int.eq_ofNat_of_zero_le (a := bits) (by omega)
    have hb1 : 0 < b := by omega
    rw [prB_nat h k b hb1]
    have d1 : decide ((b : Int) < 1) = false := by rw [decide_eq_false_iff_not]; omega
    have d2 : decide ((k : Int) < 0) = false := by rw [decide_eq_false_iff_not]; omega
    have hk2 : (k : Int) ≤ 9223372036854775807 := by omega
    have hb2 : (b : Int) ≤ 9223372036854775807 := by omega
    have hb3 : ((b : Int) == 0) = false := by rw [beq_eq_false_iff_ne]; omega
    clear hno hi hb
    have hs := stepN_lt hh
    go_enter Try.func15, Try.ntmps15
    go_wp2_with fail
    refine (hashes_Step _ _ hh).mono ?_
    rintro e w' ⟨rfl, rfl⟩
    go_wp2
    go_ret
    exact ⟨ret_int (probe_walk h k b hb1 hb2), rfl⟩

set_option maxHeartbeats 1000000 in
theorem ref_Probe (h : Nat) (i bits : Int) (w : World) (hh : h < 18446744073709551616) (hi : -9223372036854775808 ≤ i ∧ i ≤ 9223372036854775807) (hb : -9223372036854775808 ≤ bits ∧ bits ≤ 9223372036854775807) :
    Calls Try.prog 16 #[.int .u64 h, .int .i64 i, .int .i64 bits] w fun e w' => e = .returned (.int .i64 (prB h i bits : Nat)) ∧ w = w' := by
  by_cases hno : bits < 1 ∨ i < 0
  · have e : prB h i bits = 0 := if_pos hno
    rw [e]; clear e
    rcases (show bits < 1 ∨ (¬ bits < 1 ∧ i < 0) from by omega) with h1 | ⟨h1, h2⟩
    all_goals
      clear hno
      go_enter Try.func16, Try.ntmps16
      go_wp2
      go_ret
      exact ⟨rfl, rfl⟩
  · obtain ⟨k, rfl⟩ := Int.eq_ofNat_of_zero_le (a := i) (by omega)
    obtain ⟨b, rfl⟩ := Int.eq_ofNat_of_zero_le (a := bits) (by omega)
    have hb1 : 0 < b := by omega
    rw [prB_nat h k b hb1]
    have d1 : decide ((b : Int) < 1) = false := by rw [decide_eq_false_iff_not]; omega
    have d2 : decide ((k : Int) < 0) = false := by rw [decide_eq_false_iff_not]; omega
    have hk2 : (k : Int) ≤ 9223372036854775807 := by omega
    have hb2 : (b : Int) ≤ 9223372036854775807 := by omega
    have hb3 : ((b : Int) == 0) = false := by rw [beq_eq_false_iff_ne]; omega
    clear hno hi hb
    have hs := stepN_lt hh
    go_enter Try.func16, Try.ntmps16
    go_wp2_with fail
    refine (ref_Step _ _ hh).mono ?_
    rintro e w' ⟨rfl, rfl⟩
    go_wp2
    go_ret
    exact ⟨ret_int (probe_walk h k b hb1 hb2), rfl⟩
end Go.Proofs.Ytpoeginnoocenaa
