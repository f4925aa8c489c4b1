/-
  The functions of package sums, and the reference's, by their contracts.
-/
import Derived.Test.YtpoeginnoocenaaNums
import Derived.Test.YtpoeginnoocenaaCrc
import Derived.Test.YtpoeginnoocenaaMem
import Derived.RegionTactic
import Derived.ChangeAlike
import Derived.BigRegion
namespace Go.Proofs.Ytpoeginnoocenaa
open Go.RowKit
set_option linter.unusedVariables false

set_option maxHeartbeats 400000 in
theorem sums_step (s c : Nat) (w : World) (hs : s < 4294967296) (hc : c < 256) :
    Calls Try.prog 60 #[.int .u32 s, .int .u8 c] w fun e w' => e = .returned (.int .u32 ((crcStep s c : Nat) : Int)) ∧ w = w' := by
  go_enter Try.func60, Try.ntmps60
  go_wp2
  go_loop [0, 9] (fun v i => ∃ k x : Nat, k ≤ 8 ∧ x < 4294967296 ∧ i = .int .i64 k ∧ v = .int .u32 (x : Int) ∧ crcBits (8 - k) x = crcStep s c) (fun _ i => 8 - (intOf i).toNat)
  case atStart => exact ⟨0, s ^^^ c, by omega, xor_lt hs (by omega), rfl, congrArg (Value.int .u32) (u32_xor_nat s c hs (by omega)), rfl⟩
  case round =>
    obtain ⟨k, x, hk, hx, rfl, rfl, he⟩ := hrel
    have He := Lib.hid he
    clear he
    go_wp2
    · go_round
      case rel =>
        refine ⟨k + 1, crcBit x, by omega, crcBit_lt hx, by go_num, congrArg (Value.int .u32) (crcBit_walk x hx), ?_⟩
        rw [← He.out, show 8 - k = (8 - (k + 1)) + 1 from by omega]; rfl
      case measure => simp [intOf]; omega
    · go_ret
      refine ⟨ret_int (congrArg Int.ofNat ?_), rfl⟩
      rw [← He.out, show 8 - k = 0 from by omega]; rfl

set_option maxHeartbeats 400000 in
theorem ref_into (s c : Nat) (w : World) (hs : s < 4294967296) (hc : c < 256) :
    Calls Try.prog 65 #[.int .u32 s, .int .u8 c] w fun e w' => e = .returned (.int .u32 ((crcStep s c : Nat) : Int)) ∧ w = w' := by
  go_enter Try.func65, Try.ntmps65
  go_wp2
  go_loop [0, 5] (fun v i => ∃ k x y : Nat, k ≤ 8 ∧ x < 4294967296 ∧ y = c / 2 ^ k ∧ i = .int .i64 k ∧ v = .int .u32 (x : Int) ∧ crcBits (8 - k) (x ^^^ y) = crcStep s c) (fun _ i => 8 - (intOf i).toNat)
  case atStart => exact ⟨0, s, c, by omega, hs, by simp, rfl, rfl, rfl⟩
  case round =>
    obtain ⟨k, x, y, hk, hx, hy, rfl, rfl, he⟩ := hrel
    have He := Lib.hid he
    have hyc : y ≤ c := by rw [hy]; exact Nat.div_le_self _ _
    have hsh : (c : Int) / 2 ^ k = (y : Int) := by rw [hy]; simp
    have hy2 : y / 2 = c / 2 ^ (k + 1) := by rw [hy, Nat.pow_succ, Nat.div_div_eq_div_mul]
    have hy8 : 8 ≤ k → y = 0 := fun h => by
      obtain rfl : k = 8 := by omega
      rw [hy]; omega
    have Hy := Lib.hid hy
    have Hy2 := Lib.hid hy2
    have Hy8 := Lib.hid hy8
    clear he hy hy2 hy8
    go_wp2
    · have ht : (((x : Int) + y) % 2 == 1) = true := by assumption
      have ht' : (x + y) % 2 = 1 := by rw [beq_iff_eq] at ht; omega
      go_round
      case rel =>
        refine ⟨k + 1, x / 2 ^^^ 3988292384, y / 2, by omega, xor_lt (by omega) (by omega), Hy2.out, by go_num, ?_, ?_⟩
        · refine congrArg (Value.int .u32) ?_
          rw [show (x : Int) / 2 = ((x / 2 : Nat) : Int) from by omega, show (3988292384 : Int) = ((3988292384 : Nat) : Int) from rfl, u32_xor_nat _ _ (by omega) (by omega)]
        · rw [← He.out, show 8 - k = (8 - (k + 1)) + 1 from by omega]
          show _ = crcBits _ (crcBit _)
          rw [refbit, if_pos ht']
      case measure => simp [intOf]; omega
    · have ht : (((x : Int) + y) % 2 == 1) = false := by assumption
      have ht' : ¬ (x + y) % 2 = 1 := by rw [beq_eq_false_iff_ne] at ht; omega
      go_round
      case rel =>
        refine ⟨k + 1, x / 2, y / 2, by omega, by omega, Hy2.out, by go_num, by go_num, ?_⟩
        rw [← He.out, show 8 - k = (8 - (k + 1)) + 1 from by omega]
        show _ = crcBits _ (crcBit _)
        rw [refbit, if_neg ht', Nat.xor_zero]
      case measure => simp [intOf]; omega
    · go_ret
      refine ⟨ret_int (congrArg Int.ofNat ?_), rfl⟩
      rw [← He.out, show 8 - k = 0 from by omega, Hy8.out (by omega), Nat.xor_zero]; rfl

set_option maxHeartbeats 400000 in
theorem sums_More (n : Nat) (s : ByteArray) (w : World) (hs : s.size ≤ maxLen) (hn : n < 4294967296) :
    Calls Try.prog 53 #[.int .u32 n, .string s] w fun e w' => e = .returned (.int .u32 ((moreL n (lb s) : Nat) : Int)) ∧ w = w' := by
  unfold maxLen at hs
  go_enter Try.func53, Try.ntmps53
  go_wp2
  go_loop [5, 11] (fun v i => ∃ k x : Nat, k ≤ s.size ∧ x < 4294967296 ∧ i = .int .i64 k ∧ v = .int .u32 (x : Int) ∧ x = crcRun (flip32 n) ((lb s).take k)) (fun _ i => s.size - (intOf i).toNat)
  case atStart => exact ⟨0, flip32 n, by omega, flip_lt n, rfl, congrArg (Value.int .u32) (flip_walk n hn), rfl⟩
  case round =>
    obtain ⟨k, x, hk, hx, rfl, rfl, he⟩ := hrel
    have He := Lib.hid he
    clear he
    by_cases hlt : k < s.size
    · go_wp2_with fail
      refine (sums_step _ _ _ hx s[k].toNat_lt).mono ?_
      rintro e w' ⟨rfl, rfl⟩
      go_wp2
      go_round
      case rel =>
        refine ⟨k + 1, _, by omega, crcStep_lt hx s[k].toNat_lt, by go_num, rfl, ?_⟩
        rw [take_lb_succ s k hlt, crcRun_snoc, ← He.out]
      case measure => simp [intOf]; omega
    · go_wp2
      go_ret
      refine ⟨ret_int ?_, rfl⟩
      rw [flip_walk x hx, He.out, List.take_of_length_le (by rw [length_lb]; omega)]; rfl

set_option maxHeartbeats 400000 in
theorem ref_More (n : Nat) (s : ByteArray) (w : World) (hs : s.size ≤ maxLen) (hn : n < 4294967296) :
    Calls Try.prog 59 #[.int .u32 n, .string s] w fun e w' => e = .returned (.int .u32 ((moreL n (lb s) : Nat) : Int)) ∧ w = w' := by
  unfold maxLen at hs
  go_enter Try.func59, Try.ntmps59
  go_wp2
  go_loop [5, 6] (fun v i => ∃ k x : Nat, k ≤ s.size ∧ x < 4294967296 ∧ i = .int .i64 k ∧ v = .int .u32 (x : Int) ∧ x = crcRun (flip32 n) ((lb s).take k)) (fun _ i => s.size - (intOf i).toNat)
  case atStart => exact ⟨0, flip32 n, by omega, flip_lt n, rfl, congrArg (Value.int .u32) (by unfold flip32; omega), rfl⟩
  case round =>
    obtain ⟨k, x, hk, hx, rfl, rfl, he⟩ := hrel
    have He := Lib.hid he
    clear he
    by_cases hlt : k < s.size
    · go_wp2_with fail
      refine (ref_into _ _ _ hx s[k].toNat_lt).mono ?_
      rintro e w' ⟨rfl, rfl⟩
      go_wp2
      go_round
      case rel =>
        refine ⟨k + 1, _, by omega, crcStep_lt hx s[k].toNat_lt, by go_num, rfl, ?_⟩
        rw [take_lb_succ s k hlt, crcRun_snoc, ← He.out]
      case measure => simp [intOf]; omega
    · go_wp2
      go_ret
      refine ⟨ret_int ?_, rfl⟩
      have e : moreL n (lb s) = flip32 x := by rw [He.out, List.take_of_length_le (by rw [length_lb]; omega)]; rfl
      rw [e]; unfold flip32; omega

theorem sums_Sum (s : ByteArray) (w : World) (hs : s.size ≤ maxLen) :
    Calls Try.prog 45 #[.string s] w fun e w' => e = .returned (.int .u32 ((sumL (lb s) : Nat) : Int)) ∧ w = w' := by
  go_enter Try.func45, Try.ntmps45
  go_wp2_with fail
  refine (sums_More 0 _ _ hs (by omega)).mono ?_
  rintro e w' ⟨rfl, rfl⟩
  go_wp2
  go_ret
  exact ⟨rfl, rfl⟩

theorem ref_Sum (s : ByteArray) (w : World) (hs : s.size ≤ maxLen) :
    Calls Try.prog 52 #[.string s] w fun e w' => e = .returned (.int .u32 ((sumL (lb s) : Nat) : Int)) ∧ w = w' := by
  go_enter Try.func52, Try.ntmps52
  go_wp2_with fail
  refine (ref_More 0 _ _ hs (by omega)).mono ?_
  rintro e w' ⟨rfl, rfl⟩
  go_wp2
  go_ret
  exact ⟨rfl, rfl⟩

set_option maxHeartbeats 400000 in
theorem sums_low (n : Nat) (w : World) (hn : n < 4294967296) :
    Calls Try.prog 44 #[.int .u32 n] w fun e w' => e = .returned (.string (bs (lowL n))) ∧ Below w.heap.size w w' := by
  go_enter Try.func44, Try.ntmps44
  go_wp2_with fail
  refine (nums_Put _ _ _ (by omega) (by omega)).mono ?_
  rintro e w1 ⟨rfl, hb1⟩
  have ep : putL ((n : Nat) : Int).toNat 4 = be 4 n := rfl
  rw [ep]; clear ep
  obtain ⟨w2, cap, hrun, hrow, hb2, hcap⟩ := conv_bytes (P := Try.prog) w1 9 34 5 (bs (be 4 n)) Try.underlying9 Try.underlying34 Try.underlying5
  rw [lb_bs] at hrow
  rw [size_bs, be_length] at hrun
  go_wp2_with fail
  obtain ⟨B, hB⟩ : ∃ B, B = w1.heap.size := ⟨_, rfl⟩
  rw [← hB] at hrow ⊢
  have e4 : be 4 n = [UInt8.ofNat (n / 16777216 % 256), UInt8.ofNat (n / 65536 % 256), UInt8.ofNat (n / 256 % 256), UInt8.ofNat (n % 256)] := by
    simp [be, Nat.div_div_eq_div_mul]
  rw [e4] at hrow
  have c0 : w2.cell? ⟨B, 0, none⟩ = some (.int .u8 ((n / 16777216 % 256 : Nat) : Int)) := by rw [hrow.cell 0 (by simp [cellsB])]; simp [cellsB]
  have c1 : w2.cell? ⟨B, 1, none⟩ = some (.int .u8 ((n / 65536 % 256 : Nat) : Int)) := by rw [hrow.cell 1 (by simp [cellsB])]; simp [cellsB]
  have c2 : w2.cell? ⟨B, 2, none⟩ = some (.int .u8 ((n / 256 % 256 : Nat) : Int)) := by rw [hrow.cell 2 (by simp [cellsB])]; simp [cellsB]
  have c3 : w2.cell? ⟨B, 3, none⟩ = some (.int .u8 ((n % 256 : Nat) : Int)) := by rw [hrow.cell 3 (by simp [cellsB])]; simp [cellsB]
  have f0 := hrow.frozen 0 (by simp [cellsB])
  have f1 := hrow.frozen 1 (by simp [cellsB])
  have f2 := hrow.frozen 2 (by simp [cellsB])
  have f3 := hrow.frozen 3 (by simp [cellsB])
  have HB := Lib.hid hB
  have Hrow := Lib.hid hrow
  have Hrun := Lib.hid hrun
  clear hB hrow hrun e4 hcap
  go_region
  have r4 := (((Hrow.out.set 0 (.int .u8 ((n : Int) % 256))).set 1 (.int .u8 ((n : Int) / 256 % 256))).set 2 (.int .u8 ((n : Int) / 65536 % 256))).set 3 (.int .u8 ((n : Int) / 16777216 % 256))
  have e5 : ((((cellsB [UInt8.ofNat (n / 16777216 % 256), UInt8.ofNat (n / 65536 % 256), UInt8.ofNat (n / 256 % 256), UInt8.ofNat (n % 256)]).set 0 (.int .u8 ((n : Int) % 256))).set 1 (.int .u8 ((n : Int) / 256 % 256))).set 2 (.int .u8 ((n : Int) / 65536 % 256))).set 3 (.int .u8 ((n : Int) / 16777216 % 256)) = cellsB (lowL n) := by
    simp [cellsB, lowL]
  rw [e5] at r4
  have hbw : Below w.heap.size w ((((w2.setCell ⟨B, 0, none⟩ (.int .u8 ((n : Int) % 256))).setCell ⟨B, 1, none⟩ (.int .u8 ((n : Int) / 256 % 256))).setCell ⟨B, 2, none⟩ (.int .u8 ((n : Int) / 65536 % 256))).setCell ⟨B, 3, none⟩ (.int .u8 ((n : Int) / 16777216 % 256))).drew := by
    have h0 : w.heap.size ≤ B := by rw [HB.out]; exact hb1.size
    exact (((((below_chain hb1 hb2).setCell (p := ⟨B, 0, none⟩) h0 _).setCell (p := ⟨B, 1, none⟩) h0 _).setCell (p := ⟨B, 2, none⟩) h0 _).setCell (p := ⟨B, 3, none⟩) h0 _).drew
  generalize ((((w2.setCell ⟨B, 0, none⟩ (.int .u8 ((n : Int) % 256))).setCell ⟨B, 1, none⟩ (.int .u8 ((n : Int) / 256 % 256))).setCell ⟨B, 2, none⟩ (.int .u8 ((n : Int) / 65536 % 256))).setCell ⟨B, 3, none⟩ (.int .u8 ((n : Int) / 16777216 % 256))) = w3 at r4 hbw ⊢
  have hcv := Row.conv (P := Try.prog) (cap := cap) (n := 4) r4.drew rfl Try.underlying34 Try.underlying5 Try.underlying9
  clear c0 c1 c2 c3 f0 f1 f2 f3 e5 r4
  have Hb := Lib.hid hbw
  clear hbw hb1 hb2
  go_wp2
  go_ret
  exact ⟨rfl, Hb.out⟩

set_option maxHeartbeats 400000 in
theorem sums_Seal (s : ByteArray) (w : World) (hs : s.size ≤ 9223372036854775000) :
    Calls Try.prog 36 #[.string s] w fun e w' => e = .returned (.string (bs (sealL (lb s)))) ∧ Below w.heap.size w w' := by
  go_enter Try.func36, Try.ntmps36
  go_wp2_with fail
  refine (sums_Sum _ _ (by unfold maxLen; omega)).mono ?_
  rintro e w1 ⟨rfl, rfl⟩
  go_wp2_with fail
  refine (sums_low _ _ (sumL_lt _)).mono ?_
  rintro e w1 ⟨rfl, hb1⟩
  have hl : (lowL (sumL (lb s))).length = 4 := rfl
  go_wp2
  go_ret
  refine ⟨ret_str ?_, hb1⟩
  conv => lhs; rw [← bs_lb s]
  rw [bs_append, bs_lb]; rfl

set_option maxHeartbeats 400000 in
theorem ref_Seal (s : ByteArray) (w : World) (hs : s.size ≤ 9223372036854775000) :
    Calls Try.prog 40 #[.string s] w fun e w' => e = .returned (.string (bs (sealL (lb s)))) ∧ Below w.heap.size w w' := by
  go_enter Try.func40, Try.ntmps40
  go_wp2_with fail
  refine (ref_Sum _ _ (by unfold maxLen; omega)).mono ?_
  rintro e w1 ⟨rfl, rfl⟩
  obtain ⟨n, hn⟩ : ∃ n, n = sumL (lb s) := ⟨_, rfl⟩
  have hlt : n < 4294967296 := by rw [hn]; exact sumL_lt _
  rw [← hn]
  have Hn := Lib.hid hn
  clear hn
  have hcv := fun W : World => conv_lit4 (P := Try.prog) ((n : Int) % 256) ((n : Int) / 256 % 256) ((n : Int) / 65536 % 256) ((n : Int) / 16777216) (by omega) (by omega) (by omega) (by omega) Try.underlying34 Try.underlying5 Try.underlying9 W
  go_wp2
  go_ret
  refine ⟨ret_str ?_, (Below.refl _ _).alloc (Nat.le_refl _) _⟩
  conv => lhs; rw [← bs_lb s]
  rw [bs_append]
  unfold sealL lowL
  rw [← Hn.out, show n / 16777216 % 256 = n / 16777216 from by omega]
end Go.Proofs.Ytpoeginnoocenaa
