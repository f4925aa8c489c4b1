/-
  Rows.NumsBackSaid: a number's bytes have it; a text's number has its bytes; of numbers of one size the lesser one's bytes are the lesser text.
-/
import Derived.Test.YtigjjggkcagkmaaNumsPut
namespace Go.Proofs.Ytigjjggkcagkmaa
open Go.RowKit
set_option linter.unusedVariables false

theorem bytesLess_be (k a b : Nat) : Op.bytesLess (be k a) (be k b) = decide (a % 256 ^ k < b % 256 ^ k) := by
  induction k generalizing a b with
  | zero => simp [be, Op.bytesLess, Nat.mod_one]
  | succ k ih =>
    rw [be_cons, be_cons, Op.bytesLess, ih]
    have ha : (UInt8.ofNat (a / 256 ^ k % 256)).toNat = a / 256 ^ k % 256 := by simp
    have hb : (UInt8.ofNat (b / 256 ^ k % 256)).toNat = b / 256 ^ k % 256 := by simp
    have ea := Nat.mod_mul (x := a) (a := 256 ^ k) (b := 256)
    have eb := Nat.mod_mul (x := b) (a := 256 ^ k) (b := 256)
    have la := Nat.mod_lt a (y := 256 ^ k) (by exact Nat.pow_pos (by omega))
    have lb := Nat.mod_lt b (y := 256 ^ k) (by exact Nat.pow_pos (by omega))
    have e1 : decide (UInt8.ofNat (a / 256 ^ k % 256) < UInt8.ofNat (b / 256 ^ k % 256)) = decide (a / 256 ^ k % 256 < b / 256 ^ k % 256) := by
      rw [decide_eq_decide, UInt8.lt_iff_toNat_lt, ha, hb]
    have e2 : (UInt8.ofNat (a / 256 ^ k % 256) == UInt8.ofNat (b / 256 ^ k % 256)) = decide (a / 256 ^ k % 256 = b / 256 ^ k % 256) := by
      rw [Bool.eq_iff_iff, beq_iff_eq, decide_eq_true_iff, ← UInt8.toNat_inj, ha, hb]
    rw [e1, e2, Nat.pow_succ, ea, eb]
    generalize a / 256 ^ k % 256 = x at *
    generalize b / 256 ^ k % 256 = y at *
    generalize a % 256 ^ k = u at *
    generalize b % 256 ^ k = v at *
    generalize 256 ^ k = p at *
    rw [Bool.eq_iff_iff]
    simp only [Bool.or_eq_true, Bool.and_eq_true, decide_eq_true_iff]
    constructor
    · rintro (h | ⟨h, h'⟩)
      · have : p * (x + 1) ≤ p * y := Nat.mul_le_mul_left p h
        rw [Nat.mul_add] at this; omega
      · subst h; omega
    · intro h
      rcases Nat.lt_trichotomy x y with h1 | h1 | h1
      · exact .inl h1
      · subst h1; exact .inr ⟨rfl, by omega⟩
      · have : p * (y + 1) ≤ p * x := Nat.mul_le_mul_left p h1
        rw [Nat.mul_add] at this; omega

theorem getN_be (k m : Nat) (h : k ≤ 8) : getN (be k m) = m % 256 ^ k := by
  unfold getN
  rw [List.take_of_length_le (by rw [be_length]; omega), num_be]
theorem pow_lt8 (k : Nat) (h : k < 8) : 256 ^ k < 18446744073709551616 := by
  have : (256 : Nat) ^ k ≤ 256 ^ 7 := Nat.pow_le_pow_right (by omega) (by omega)
  omega
theorem wrap_pow (k : Nat) (h : k < 8) : IntKind.u64.wrap (2 ^ (8 * k)) = ((256 ^ k : Nat) : Int) := by
  have e : (2 : Int) ^ (8 * k) = ((256 ^ k : Nat) : Int) := by rw [Int.pow_mul]; simp
  have h1 := pow_lt8 k h
  rw [IntKind.wrap_u64, e]
  generalize 256 ^ k = p at *
  omega

set_option maxHeartbeats 1000000 in
theorem NumsBack_walk (a b : Int) (s : ByteArray) (w : World) (ha : 0 ≤ a ∧ a ≤ 18446744073709551615) (hb : 0 ≤ b ∧ b ≤ 18446744073709551615) (hs : s.size ≤ maxLen) :
    Calls Try.prog 5 #[.int .u64 a, .int .u64 b, .string s] w fun e w' => e = .returned (.bool true) ∧ Below w.heap.size w w' := by
  obtain ⟨m, rfl⟩ := Int.eq_ofNat_of_zero_le ha.1
  obtain ⟨n, rfl⟩ := Int.eq_ofNat_of_zero_le hb.1
  have ha1 : m < 18446744073709551616 := by omega
  have hb1 : n < 18446744073709551616 := by omega
  clear ha hb
  go_enter Try.func5, Try.ntmps5
  go_wp2_with fail
  go_loopw [7] (fun i wr => ∃ k : Nat, 1 ≤ k ∧ k ≤ 9 ∧ i = .int .i64 k ∧ Below w.heap.size w wr) (fun i _ => (9 - intOf i).toNat)
  case atStart => exact ⟨1, by omega, by omega, rfl, Below.refl _ _⟩
  case round =>
    obtain ⟨k, hk0, hk1, rfl, hbr⟩ := hrel
    by_cases hlt : k ≤ 8
    · have hlt' : (k : Int) ≤ 8 := by omega
      obtain ⟨x, hx⟩ : ∃ x, x = m % 256 ^ k := ⟨_, rfl⟩
      obtain ⟨y, hy⟩ : ∃ y, y = n % 256 ^ k := ⟨_, rfl⟩
      have hless : Op.bytesLess (be k m) (be k n) = decide (x < y) := by rw [bytesLess_be, hx, hy]
      have hgx : getN (be k m) = x := by rw [getN_be k m hlt, hx]
      have hgy : getN (be k n) = y := by rw [getN_be k n hlt, hy]
      have hlow : k < 8 → (m : Int) % IntKind.u64.wrap (2 ^ (8 * k)) = (x : Int) := fun h => by rw [wrap_pow k h, hx]; simp
      have hne : k < 8 → ¬ IntKind.u64.wrap (2 ^ (8 * k)) = 0 := fun h => by
        rw [wrap_pow k h]
        have : 0 < 256 ^ k := Nat.pow_pos (by omega)
        omega
      have hxm : ¬ k < 8 → m = x := fun h => by
        obtain rfl : k = 8 := by omega
        rw [hx]; exact (Nat.mod_eq_of_lt ha1).symm
      clear hx hy
      go_wp2_with fail
      refine (nums_Put _ _ _ (by omega) (by omega)).mono ?_
      rintro e w1 ⟨rfl, h1⟩
      have ea : putL (m : Int).toNat k = be k m := by unfold putL; rw [if_neg (by omega)]; rfl
      rw [ea]; clear ea
      go_wp2_with fail
      refine (nums_Put _ _ _ (by omega) (by omega)).mono ?_
      rintro e w2 ⟨rfl, h2⟩
      have eb : putL (n : Int).toNat k = be k n := by unfold putL; rw [if_neg (by omega)]; rfl
      rw [eb]; clear eb
      have Hgx := Lib.hid hgx
      have Hgy := Lib.hid hgy
      clear hgx hgy
      have hbs : (bs (be k m)).size ≤ maxLen := by rw [size_bs, be_length]; unfold maxLen; omega
      have hbs' : (bs (be k n)).size ≤ maxLen := by rw [size_bs, be_length]; unfold maxLen; omega
      have Hbs := Lib.hid hbs
      have Hbs' := Lib.hid hbs'
      clear hbs hbs'
      by_cases h8 : k < 8
      · have h8' : (k : Int) < 8 := by omega
        have hlow' := hlow h8
        have hne' := hne h8
        clear hlow hne hxm
        go_wp2_with fail
        refine (nums_Get _ _ Hbs.out).mono ?_
        rintro e w3 ⟨rfl, rfl⟩
        rw [lb_bs, Hgx.out]
        go_wp2_with fail
        refine (nums_Get _ _ Hbs.out).mono ?_
        rintro e w3 ⟨rfl, rfl⟩
        rw [lb_bs, Hgx.out]
        go_wp2_with fail
        refine (nums_Get _ _ Hbs'.out).mono ?_
        rintro e w3 ⟨rfl, rfl⟩
        rw [lb_bs, Hgy.out]
        go_wp2
        go_roundw
        case rel => exact ⟨k + 1, by omega, by omega, by go_num, below_more (below_more hbr h1 (Nat.le_refl _)) h2 (Nat.le_refl _)⟩
        case measure => simp [intOf]; omega
      · have h8' : ¬ (k : Int) < 8 := by omega
        have hxm' := hxm h8
        subst hxm'
        clear hlow hne hxm
        go_wp2_with fail
        refine (nums_Get _ _ Hbs.out).mono ?_
        rintro e w3 ⟨rfl, rfl⟩
        rw [lb_bs, Hgx.out]
        go_wp2_with fail
        refine (nums_Get _ _ Hbs.out).mono ?_
        rintro e w3 ⟨rfl, rfl⟩
        rw [lb_bs, Hgx.out]
        go_wp2_with fail
        refine (nums_Get _ _ Hbs'.out).mono ?_
        rintro e w3 ⟨rfl, rfl⟩
        rw [lb_bs, Hgy.out]
        go_wp2
        go_roundw
        case rel => exact ⟨k + 1, by omega, by omega, by go_num, below_more (below_more hbr h1 (Nat.le_refl _)) h2 (Nat.le_refl _)⟩
        case measure => simp [intOf]; omega
    · have hlt' : ¬ (k : Int) ≤ 8 := by omega
      by_cases hlen : 1 ≤ s.size ∧ s.size ≤ 8
      · have hl1 : ¬ (s.size : Int) < 1 := by omega
        have hl2 : ¬ (8 : Int) < s.size := by omega
        go_wp2_with fail
        refine (nums_Get _ _ hs).mono ?_
        rintro e w3 ⟨rfl, rfl⟩
        go_wp2_with fail
        refine (nums_Put _ _ _ (by omega) (by have := getN_lt (lb s); omega)).mono ?_
        rintro e w1 ⟨rfl, h1⟩
        have es : bs (putL ((getN (lb s) : Nat) : Int).toNat s.size) = s := by
          unfold putL getN
          rw [if_neg (by omega), List.take_of_length_le (by rw [length_lb]; omega)]
          have := be_num (lb s)
          rw [length_lb] at this
          rw [show ((s.size : Int).toNat) = s.size from rfl, Int.toNat_natCast, this, bs_lb]
        rw [es]; clear es
        go_wp2_with fail
        refine (law_put _).mono ?_
        rintro e w5 ⟨rfl, hb5⟩
        go_wp2
        go_ret
        exact ⟨rfl, below_more (below_more hbr h1 (Nat.le_refl _)) hb5 (Nat.le_refl _)⟩
      · rcases (show (s.size : Int) < 1 ∨ (¬ (s.size : Int) < 1 ∧ (8 : Int) < s.size) from by omega) with hl | ⟨hl, hl'⟩
        all_goals
          go_wp2_with fail
          refine (law_put _).mono ?_
          rintro e w5 ⟨rfl, hb5⟩
          go_wp2
          go_ret
          exact ⟨rfl, below_more hbr hb5 (Nat.le_refl _)⟩
end Go.Proofs.Ytigjjggkcagkmaa
