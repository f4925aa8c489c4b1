/-
  Whether bits have a hash: the reference's Has by its contract.
-/
import Derived.Test.YtpoeginnoocenaaBloom0
namespace Go.Proofs.Ytpoeginnoocenaa
open Go.RowKit
set_option linter.unusedVariables false

def bitL (l : List UInt8) (b : Nat) : Bool := (l.getD (b / 8) 0).toNat / 2 ^ (b % 8) % 2 == 1
def manyN (n : Int) : Nat := min n.toNat 64
def hasL (l : List UInt8) (n : Int) (h : Nat) : Bool := l.isEmpty || (List.range (manyN n)).all fun i => bitL l (prN h i (8 * l.length))
theorem all_range (p : Nat → Bool) (n : Nat) : (List.range n).all p = true ↔ ∀ i, i < n → p i = true := by simp [List.all_eq_true]
theorem hasL_yes {l : List UInt8} {n : Int} {h : Nat} (hl : l ≠ []) (ha : ∀ i, i < manyN n → bitL l (prN h i (8 * l.length)) = true) : hasL l n h = true := by
  unfold hasL
  rw [(all_range _ _).2 ha, Bool.or_true]
theorem hasL_no {l : List UInt8} {n : Int} {h i : Nat} (hl : l ≠ []) (hi : i < manyN n) (hb : bitL l (prN h i (8 * l.length)) = false) : hasL l n h = false := by
  unfold hasL
  rw [Bool.or_eq_false_iff]
  refine ⟨by cases l <;> simp_all, ?_⟩
  rcases ha : (List.range (manyN n)).all fun i => bitL l (prN h i (8 * l.length)) with _ | _
  · rfl
  · rw [all_range] at ha; rw [ha i hi] at hb; cases hb

theorem bit_walk (x : Nat) (r : Nat) : (((x : Int) / 2 ^ r).tmod 2 == 0) = !(x / 2 ^ r % 2 == 1) := by
  have e : (x : Int) / 2 ^ r = ((x / 2 ^ r : Nat) : Int) := by simp
  rw [e, show (2 : Int) = ((2 : Nat) : Int) from rfl, ← Int.ofNat_tmod]
  rcases Nat.mod_two_eq_zero_or_one (x / 2 ^ r) with h | h <;> rw [h] <;> rfl

set_option maxHeartbeats 1000000 in
theorem ref_Has (s : ByteArray) (n : Int) (h : Nat) (w : World) (hs : s.size ≤ 1000000000) (hn : -9223372036854775808 ≤ n ∧ n ≤ 9223372036854775807) (hh : h < 18446744073709551616) :
    Calls Try.prog 18 #[.string s, .int .i64 n, .int .u64 h] w fun e w' => e = .returned (.bool (hasL (lb s) n h)) ∧ w = w' := by
  obtain ⟨hn1, hn2⟩ := hn
  go_enter Try.func18, Try.ntmps18
  go_wp2
  go_loopw [7] (fun i wr => ∃ k : Nat, k ≤ 64 ∧ k ≤ manyN n ∧ i = .int .i64 k ∧ (∀ j, j < k → bitL (lb s) (prN h j (8 * (lb s).length)) = true) ∧ (0 < k → 0 < s.size) ∧ wr = w) (fun i _ => 64 - (intOf i).toNat)
  case atStart => exact ⟨0, by omega, by omega, rfl, fun j hj => by omega, fun h => by omega, rfl⟩
  case round =>
    obtain ⟨k, hk, hkm, rfl, hall, hpos, rfl⟩ := hrel
    have Hall := Lib.hid hall
    clear hall
    by_cases h1 : (k : Int) < n
    · by_cases h2 : k < 64
      · by_cases h3 : 0 < s.size
        · have hb1 : 0 < 8 * s.size := by omega
          have ep := prB_nat h k (8 * s.size) hb1
          have hlt := prN_lt h k hb1
          rw [show ((8 * s.size : Nat) : Int) = 8 * (s.size : Int) from by omega] at ep
          obtain ⟨b, hb⟩ : ∃ b, b = prN h k (8 * s.size) := ⟨_, rfl⟩
          rw [← hb] at ep hlt
          have hq : b / 8 < s.size := by omega
          have h2' : (k : Int) < 64 := by omega
          have h3' : (0 : Int) < s.size := by omega
          have hkm' : k < manyN n := by unfold manyN; omega
          have hbl : bitL (lb s) (prN h k (8 * (lb s).length)) = (s[b / 8].toNat / 2 ^ (b % 8) % 2 == 1) := by
            rw [length_lb, ← hb]
            unfold bitL
            rw [List.getD_eq_getElem?_getD, List.getElem?_eq_getElem (by rw [length_lb]; exact hq)]
            rfl
          have Hb := Lib.hid hb
          have Hbl := Lib.hid hbl
          have Hep := Lib.hid ep
          clear hb hbl ep
          go_wp2_with fail
          refine (ref_Probe _ _ _ _ hh (by omega) (by omega)).mono ?_
          rintro e w' ⟨rfl, rfl⟩
          rw [Hep.out]
          have i1 : (b : Int) / 8 < s.size := by omega
          have i2 : (b : Int) % 8 ≤ 7 := by omega
          have i3 : (0 : Int) ≤ (b : Int) / 8 := by omega
          have i4 : (0 : Int) ≤ (b : Int) % 8 := by omega
          have hw := bit_walk s[b / 8].toNat (b % 8)
          rcases hbit : (s[b / 8].toNat / 2 ^ (b % 8) % 2 == 1) with _ | _
          · rw [hbit] at hw
            have hF : hasL (lb s) n h = false := hasL_no (by intro e; have := length_lb s; rw [e] at this; simp at this; omega) hkm' (by rw [Hbl.out, hbit])
            have HF := Lib.hid hF
            clear hF hbit
            go_wp2
            go_ret
            exact ⟨ret_bool HF.out.symm, rfl⟩
          · rw [hbit] at hw
            have Hbit := Lib.hid hbit
            clear hbit
            go_wp2
            go_round
            case rel =>
              refine ⟨k + 1, by omega, by omega, by go_num, ?_, fun _ => h3, trivial⟩
              intro j hj
              by_cases hjk : j = k
              · subst hjk; rw [Hbl.out, Hbit.out]
              · exact Hall.out j (by omega)
            case measure => simp [intOf]; omega
        · have h3' : ¬ (0 : Int) < s.size := by omega
          have h2' : (k : Int) < 64 := by omega
          have hT : hasL (lb s) n h = true := by
            have : lb s = [] := List.eq_nil_of_length_eq_zero (by rw [length_lb]; omega)
            unfold hasL; rw [this]; rfl
          have HT := Lib.hid hT
          clear hT
          go_wp2
          go_ret
          exact ⟨ret_bool HT.out.symm, rfl⟩
      · have h2' : ¬ (k : Int) < 64 := by omega
        have hT : hasL (lb s) n h = true := hasL_yes (by intro e; have := length_lb s; rw [e] at this; simp at this; have := hpos (by omega); omega) (fun i hi => Hall.out i (by unfold manyN at hi; omega))
        have HT := Lib.hid hT
        clear hT
        go_wp2
        go_ret
        exact ⟨ret_bool HT.out.symm, rfl⟩
    · have hT : hasL (lb s) n h = true := by
        by_cases h3 : s.size = 0
        · have : lb s = [] := List.eq_nil_of_length_eq_zero (by rw [length_lb]; omega)
          unfold hasL; rw [this]; rfl
        · exact hasL_yes (by intro e; have := length_lb s; rw [e] at this; simp at this; omega) (fun i hi => Hall.out i (by unfold manyN at hi; omega))
      have HT := Lib.hid hT
      clear hT
      go_wp2
      go_ret
      exact ⟨ret_bool HT.out.symm, rfl⟩
end Go.Proofs.Ytpoeginnoocenaa
