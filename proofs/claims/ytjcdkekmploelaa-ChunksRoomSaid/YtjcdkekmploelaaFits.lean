/-
  Whether a payload's record finds room: the program's Fits and the reference's; what Scan tells is told.
-/
import Derived.Test.YtjcdkekmploelaaScan
import Derived.Test.YtjcdkekmploelaaRecorded
namespace Go.Proofs.Ytjcdkekmploelaa
open Go.RowKit
set_option linter.unusedVariables false

def fitsB (n : Int) (k : Nat) : Bool := decide (0 ≤ n ∧ n ≤ 4096 ∧ k ≤ 2000 ∧ n + k + 12 ≤ 4096)

theorem chunks_Fits (n : Int) (s : ByteArray) (w : World) (hn : -9223372036854775808 ≤ n ∧ n ≤ 9223372036854775807) (hs : s.size ≤ maxLen) :
    Calls Try.prog 30 #[.int .i64 n, .string s] w fun e w' => e = .returned (.bool (fitsB n s.size)) ∧ w = w' := by
  unfold maxLen at hs
  obtain ⟨n1, n2⟩ := hn
  by_cases h0 : 0 ≤ n
  · obtain ⟨k, rfl⟩ := Int.eq_ofNat_of_zero_le h0
    by_cases h1 : k ≤ 4096
    · by_cases h2 : s.size ≤ 2000
      · have hd1 : decide ((k : Int) ≤ 4096) = true := by rw [decide_eq_true_iff]; omega
        have hd2 : decide ((s.size : Int) ≤ 2000) = true := by rw [decide_eq_true_iff]; omega
        have hd3 : decide ((s.size : Int) + 12 ≤ 4096 - k) = fitsB k s.size := by unfold fitsB; rw [decide_eq_decide]; omega
        have g1 : (k : Int) ≤ 4096 := by omega
        have g2 : (s.size : Int) ≤ 2000 := by omega
        generalize fitsB k s.size = F at hd3 ⊢
        clear h0 h1 h2 n1 n2 hs
        go_enter Try.func30, Try.ntmps30
        go_wp2
        go_ret
        exact ⟨rfl, rfl⟩
      · have e : fitsB k s.size = false := by unfold fitsB; rw [decide_eq_false_iff_not]; omega
        have hd1 : decide ((k : Int) ≤ 4096) = true := by rw [decide_eq_true_iff]; omega
        have hd2 : decide ((s.size : Int) ≤ 2000) = false := by rw [decide_eq_false_iff_not]; omega
        rw [e]; clear e h0 h1 h2 n1 n2
        go_enter Try.func30, Try.ntmps30
        go_wp2
        go_ret
        exact ⟨rfl, rfl⟩
    · have e : fitsB k s.size = false := by unfold fitsB; rw [decide_eq_false_iff_not]; omega
      have hd1 : decide ((k : Int) ≤ 4096) = false := by rw [decide_eq_false_iff_not]; omega
      rw [e]; clear e h0 h1 n1 n2
      go_enter Try.func30, Try.ntmps30
      go_wp2
      go_ret
      exact ⟨rfl, rfl⟩
  · have e : fitsB n s.size = false := by unfold fitsB; rw [decide_eq_false_iff_not]; omega
    have hd1 : decide ((0 : Int) ≤ n) = false := by rw [decide_eq_false_iff_not]; omega
    rw [e]; clear e h0 n1 n2
    go_enter Try.func30, Try.ntmps30
    go_wp2
    go_ret
    exact ⟨rfl, rfl⟩

theorem ref_Fits (n : Int) (s : ByteArray) (w : World) (hn : -9223372036854775808 ≤ n ∧ n ≤ 9223372036854775807) (hs : s.size ≤ maxLen) :
    Calls Try.prog 31 #[.int .i64 n, .string s] w fun e w' => e = .returned (.bool (fitsB n s.size)) ∧ w = w' := by
  unfold maxLen at hs
  obtain ⟨n1, n2⟩ := hn
  by_cases h2 : s.size ≤ 2000
  · by_cases h0 : 0 ≤ n
    · obtain ⟨k, rfl⟩ := Int.eq_ofNat_of_zero_le h0
      by_cases h1 : k ≤ 4096
      · have hd1 : decide ((k : Int) ≤ 4096) = true := by rw [decide_eq_true_iff]; omega
        have hd2 : decide ((s.size : Int) ≤ 2000) = true := by rw [decide_eq_true_iff]; omega
        have hd3 : decide ((k : Int) + s.size + 12 ≤ 4096) = fitsB k s.size := by unfold fitsB; rw [decide_eq_decide]; omega
        have g1 : (k : Int) ≤ 4096 := by omega
        have g2 : (s.size : Int) ≤ 2000 := by omega
        generalize fitsB k s.size = F at hd3 ⊢
        clear h0 h1 h2 n1 n2 hs
        go_enter Try.func31, Try.ntmps31
        go_wp2
        go_ret
        exact ⟨rfl, rfl⟩
      · have e : fitsB k s.size = false := by unfold fitsB; rw [decide_eq_false_iff_not]; omega
        have hd1 : decide ((k : Int) ≤ 4096) = false := by rw [decide_eq_false_iff_not]; omega
        have hd2 : decide ((s.size : Int) ≤ 2000) = true := by rw [decide_eq_true_iff]; omega
        rw [e]; clear e h0 h1 h2 n1 n2
        go_enter Try.func31, Try.ntmps31
        go_wp2
        go_ret
        exact ⟨rfl, rfl⟩
    · have e : fitsB n s.size = false := by unfold fitsB; rw [decide_eq_false_iff_not]; omega
      have hd1 : decide ((0 : Int) ≤ n) = false := by rw [decide_eq_false_iff_not]; omega
      have hd2 : decide ((s.size : Int) ≤ 2000) = true := by rw [decide_eq_true_iff]; omega
      rw [e]; clear e h0 h2 n1 n2
      go_enter Try.func31, Try.ntmps31
      go_wp2
      go_ret
      exact ⟨rfl, rfl⟩
  · have e : fitsB n s.size = false := by unfold fitsB; rw [decide_eq_false_iff_not]; omega
    have hd2 : decide ((s.size : Int) ≤ 2000) = false := by rw [decide_eq_false_iff_not]; omega
    rw [e]; clear e h2 n1 n2
    go_enter Try.func31, Try.ntmps31
    go_wp2
    go_ret
    exact ⟨rfl, rfl⟩

theorem ints_nats {w : World} {v : Value} (l : List Nat) : Reads w v 1 l.length (natsC l) → Reads w v 1 (l.map (fun n : Nat => (n : Int))).length (intsC (l.map (fun n : Nat => (n : Int)))) := by
  intro h; rw [List.length_map]; exact h
set_option maxHeartbeats 1000000 in
theorem law_told (s : ByteArray) (n : Int) (v : Value) (l : List Nat) (k : Nat) (o : Bool) (w : World) (hs : s.size ≤ 1000000000000) (hn : -9223372036854775808 ≤ n ∧ n ≤ 9223372036854775807) (hv : Reads w v 1 l.length (natsC l))
    (h1 : cAt (lb s) n = l) (h2 : cEnd (lb s) n = k) (h3 : cOk (lb s) n = o) :
    Calls Try.prog 42 #[.string s, .int .i64 n, v, .int .i64 k, .bool o] w fun e w' => e = .returned (.bool true) ∧ Below w.heap.size w w' := by
  have hS := chunks_Scan s n w hs hn
  unfold ScanTold at hS
  rw [h1, h2, h3] at hS
  have HS := Lib.hid hS
  clear hS h1 h2 h3
  go_enter Try.func42, Try.ntmps42
  go_wp2_with fail
  refine HS.out.mono ?_
  rintro e w1 ⟨v1, rfl, hr1, hb1⟩
  go_wp2_with fail
  refine (ex_Ints _ _ _ _ true _ (ints_nats _ hr1) (ints_nats _ (hv.next hb1)) (by simp)).mono ?_
  rintro e w2 ⟨rfl, hb2⟩
  go_wp2
  go_ret
  refine ⟨rfl, ?_⟩
  repeat (first | assumption | exact Below.refl _ _ | (refine below_chain (by assumption) ?_))
end Go.Proofs.Ytjcdkekmploelaa
