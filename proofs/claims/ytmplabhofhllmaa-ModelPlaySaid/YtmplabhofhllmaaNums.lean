/-
  The functions of package nums by their contracts.
-/
import Derived.Test.YtmplabhofhllmaaProg
import Derived.Test.YtmplabhofhllmaaPlain
import Derived.WalkSpells
import Derived.WalkLawsBesides
import Derived.Deep.QuietTactic
import Derived.BigQuiet
import Derived.Laws.Concat
namespace Go.Proofs.Ytmplabhofhllmaa
open Go.RowKit
set_option linter.unusedVariables false


theorem infoByte : (Try.prog.info? 5).map (fun i => (i.zero, i.size, i.bytes)) = some (some (.int .u8 0), 1, 1) := by kernel_rfl

set_option maxHeartbeats 400000 in
theorem nums_Put_no (n size : Int) (w : World) (h : size < 1 ∨ 8 < size) :
    Calls Try.prog 40 #[.int .u64 n, .int .i64 size] w fun e w' => e = .returned (.string (bs (putL n.toNat size))) ∧ Below w.heap.size w w' := by
  have hv : putL n.toNat size = [] := by unfold putL; rw [if_pos h]
  rw [hv]; clear hv
  rcases h with h | h
  · go_enter Try.func40, Try.ntmps40
    go_wp2
    go_ret
    exact ⟨rfl, Below.refl _ _⟩
  · have h' : ¬ size < 1 := by omega
    go_enter Try.func40, Try.ntmps40
    go_wp2
    go_ret
    exact ⟨rfl, Below.refl _ _⟩

set_option maxHeartbeats 400000 in
theorem nums_Put_yes (n : Int) (c : Nat) (w : World) (hn0 : 0 ≤ n) (hn1 : n < 18446744073709551616) (h1 : 1 ≤ c) (h8 : c ≤ 8) :
    Calls Try.prog 40 #[.int .u64 n, .int .i64 c] w fun e w' => e = .returned (.string (bs (putL n.toNat c))) ∧ Below w.heap.size w w' := by
  obtain ⟨i0, hi0, hz0, hz1, hz2⟩ := info_parts infoByte
  have h1' : ¬ (c : Int) < 1 := by omega
  have h8' : ¬ (8 : Int) < c := by omega
  go_enter Try.func40, Try.ntmps40
  go_wp2_with (refine wpList_make_full _ rfl _ _ 58 rfl w.heap.size 5 i0 _ 1 Try.underlying58 hi0 hz0 hz1 .i64 .i64 c c c rfl rfl rfl rfl (by rw [hz2]; omega) (by unfold maxLen; omega) (Nat.le_refl _) ?_; intro w1 hown hg1)
  have hb1 : Below w.heap.size w w1 := (Below.refl _ _).grown hg1 (Nat.le_refl _) (by simp)
  go_loopw [16] (fun i wr => ∃ k : Nat, k ≤ c ∧ i = .int .i64 k ∧ wr.ownsRow w.heap.size 5 1 (.slice (some ⟨w.heap.size, 0, none⟩) c c) c (zeroB (c - k) ++ cellsB (be k n.toNat)) ∧ Below w.heap.size w wr) (fun i _ => c - (intOf i).toNat)
  case atStart =>
    refine ⟨0, Nat.zero_le _, rfl, ?_, hb1⟩
    rw [made_bytes] at hown
    simpa [cellsB, be] using hown
  case round =>
    obtain ⟨k, hk, rfl, hownr, hbr⟩ := hrel
    have hcell : k < c → wr.cell? ⟨w.heap.size, c - 1 - k, none⟩ = some (.int .u8 0) := fun h => by
      rw [hownr.cellAt _ (by omega), List.getElem?_append_left (by simp [zeroB]; omega)]
      simp [zeroB, List.getElem?_replicate]; omega
    have hfz : wr.frozen? ⟨w.heap.size, c - 1 - k, none⟩ = false := hownr.frozenAt _
    have hcv : ¬ k < c → (convert 58 9 (.slice (some ⟨w.heap.size, 0, none⟩) c c)).run Try.prog wr = .ok (.string (bs (be c n.toNat))) wr := fun h => by
      have e : k = c := by omega
      subst e
      refine conv_own (base := w.heap.size) ?_ Try.underlying58 Try.underlying5 Try.underlying9
      simpa [zeroB] using hownr
    clear hown hg1 hb1
    go_wp2
    · have hlt : k < c := by assumption
      go_roundw
      case rel =>
        refine ⟨k + 1, by omega, by go_num, ?_, hbr.setCell (Nat.le_refl _) _⟩
        rw [← put_round c k n hn0 hlt]
        exact (hownr.stored _ _).1
      case measure => simp [intOf]; omega
    · go_ret
      refine ⟨ret_str (congrArg bs ?_), hbr⟩
      unfold putL
      rw [if_neg (by omega)]; rfl

theorem nums_Put (n size : Int) (w : World) (hn0 : 0 ≤ n) (hn1 : n < 18446744073709551616) :
    Calls Try.prog 40 #[.int .u64 n, .int .i64 size] w fun e w' => e = .returned (.string (bs (putL n.toNat size))) ∧ Below w.heap.size w w' := by
  by_cases h : size < 1 ∨ 8 < size
  · exact nums_Put_no n size w h
  · obtain ⟨c, rfl⟩ := Int.eq_ofNat_of_zero_le (a := size) (by omega)
    exact nums_Put_yes n c w hn0 hn1 (by omega) (by omega)

set_option maxHeartbeats 400000 in
theorem nums_Text (s : ByteArray) (w : World) (hs : s.size ≤ 9223372036854775000) :
    Calls Try.prog 39 #[.string s] w fun e w' => e = .returned (.string (bs (textL (lb s)))) ∧ Below w.heap.size w w' := by
  by_cases h : s.size ≤ 65535
  · have h' : ¬ (65535 : Int) < s.size := by omega
    go_enter Try.func39, Try.ntmps39
    go_wp2_with fail
    refine (nums_Put _ _ _ (by omega) (by omega)).mono ?_
    rintro e w' ⟨rfl, hb⟩
    have hlen : (bs (putL s.size 2)).size = 2 := by rw [size_bs, putL_length _ _ (by omega) (by omega)]; rfl
    have H := Lib.hid hb; clear hb
    go_wp2
    go_ret
    refine ⟨ret_str ?_, H.out⟩
    rw [bs_append_r]
    unfold textL putL
    rw [if_neg (by omega), if_neg (by rw [length_lb]; omega), length_lb]
    rfl
  · have h' : (65535 : Int) < s.size := by omega
    go_enter Try.func39, Try.ntmps39
    go_wp2
    go_ret
    refine ⟨ret_str ?_, Below.refl _ _⟩
    unfold textL
    rw [if_pos (by rw [length_lb]; omega)]
    rfl



set_option maxHeartbeats 400000 in
theorem ref_Put_yes (n c : Nat) (w : World) (hn1 : n < 18446744073709551616) (h1 : 1 ≤ c) (h8 : c ≤ 8) :
    Calls Try.prog 44 #[.int .u64 n, .int .i64 c] w fun e w' => e = .returned (.string (bs (putL n c))) ∧ Below w.heap.size w w' := by
  have h1' : ¬ (c : Int) < 1 := by omega
  have h8' : ¬ (8 : Int) < c := by omega
  go_enter Try.func44, Try.ntmps44
  go_wp2
  go_loopw [0, 5, 6] (fun m s i wr => ∃ k q : Nat, k ≤ c ∧ q = n / 256 ^ k ∧ i = .int .i64 k ∧ m = .int .u64 (q : Int) ∧ s = .string (bs (be k n)) ∧ Below w.heap.size w wr) (fun m s i _ => c - (intOf i).toNat)
  case atStart => exact ⟨0, n, Nat.zero_le _, by simp, rfl, rfl, rfl, Below.refl _ _⟩
  case round =>
    obtain ⟨k, q, hk, hq, rfl, rfl, rfl, hbr⟩ := hrel
    have hq1 : q ≤ n := by rw [hq]; exact Nat.div_le_self _ _
    have hl : (bs (be k n)).size = k := by rw [size_bs, be_length]
    have Hq := Lib.hid hq
    clear hq
    have hcv := fun W : World => conv_lit1 (P := Try.prog) ((q : Int) % 256) (by omega) (by omega) Try.underlying58 Try.underlying5 Try.underlying9 W
    go_wp2
    · go_roundw
      case rel =>
        refine ⟨k + 1, q / 256, by omega, ?_, by go_num, by go_num, ?_, hbr.alloc (Below.size hbr) _⟩
        · rw [Hq.out, Nat.pow_succ, Nat.div_div_eq_div_mul]
        · rw [bs_append, be_cons, ← Hq.out]; rfl
      case measure => simp [intOf]; omega
    · go_ret
      refine ⟨ret_str (congrArg bs ?_), hbr⟩
      obtain rfl : k = c := by omega
      unfold putL
      rw [if_neg (by omega)]; rfl

set_option maxHeartbeats 400000 in
theorem ref_Put (n size : Int) (w : World) (hn0 : 0 ≤ n) (hn1 : n < 18446744073709551616) :
    Calls Try.prog 44 #[.int .u64 n, .int .i64 size] w fun e w' => e = .returned (.string (bs (putL n.toNat size))) ∧ Below w.heap.size w w' := by
  by_cases h : size < 1 ∨ 8 < size
  · have hv : putL n.toNat size = [] := by unfold putL; rw [if_pos h]
    rw [hv]; clear hv
    rcases h with h | h
    · go_enter Try.func44, Try.ntmps44
      go_wp2
      go_ret
      exact ⟨rfl, Below.refl _ _⟩
    · have h' : ¬ size < 1 := by omega
      go_enter Try.func44, Try.ntmps44
      go_wp2
      go_ret
      exact ⟨rfl, Below.refl _ _⟩
  · obtain ⟨c, rfl⟩ := Int.eq_ofNat_of_zero_le (a := size) (by omega)
    obtain ⟨m, rfl⟩ := Int.eq_ofNat_of_zero_le hn0
    exact ref_Put_yes m c w (by omega) (by omega) (by omega)

set_option maxHeartbeats 400000 in
theorem ref_Text (s : ByteArray) (w : World) (hs : s.size ≤ 9223372036854775000) :
    Calls Try.prog 43 #[.string s] w fun e w' => e = .returned (.string (bs (textL (lb s)))) ∧ Below w.heap.size w w' := by
  by_cases h : s.size ≤ 65535
  · have h' : ¬ (65535 : Int) < s.size := by omega
    have hcv := fun W : World => conv_lit2 (P := Try.prog) ((s.size : Int) / 256) ((s.size : Int) % 256) (by omega) (by omega) (by omega) (by omega) Try.underlying58 Try.underlying5 Try.underlying9 W
    go_enter Try.func43, Try.ntmps43
    go_wp2
    go_ret
    refine ⟨ret_str ?_, (Below.refl _ _).alloc (Nat.le_refl _) _⟩
    rw [bs_append_r]
    unfold textL
    rw [if_neg (by rw [length_lb]; omega), length_lb, be_two _ (by omega)]
  · have h' : (65535 : Int) < s.size := by omega
    go_enter Try.func43, Try.ntmps43
    go_wp2
    go_ret
    refine ⟨ret_str ?_, Below.refl _ _⟩
    unfold textL
    rw [if_pos (by rw [length_lb]; omega)]
    rfl

end Go.Proofs.Ytmplabhofhllmaa
