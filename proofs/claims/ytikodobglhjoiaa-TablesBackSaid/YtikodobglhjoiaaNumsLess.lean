/-
  The bytes of numbers of one size stand to each other as the numbers do.
-/
import Derived.Test.YtikodobglhjoiaaPlain
namespace Go.Proofs.Ytikodobglhjoiaa
set_option linter.unusedVariables false

theorem bytesLess_be (k a b : Nat) : Op.bytesLess (be k a) (be k b) = decide (a % 256 ^ k < b % 256 ^ k) := by
  induction k generalizing a b with
  | zero => simp [be, Op.bytesLess, Nat.mod_one]
  | succ k ih =>
    rw [be_cons, be_cons, Op.bytesLess, ih]
    have ha : (UInt8.ofNat (a / 256 ^ k % 256)).toNat = a / 256 ^ k % 256 := by simp
    have hb : (UInt8.ofNat (b / 256 ^ k % 256)).toNat = b / 256 ^ k % 256 := by simp
    have ea := Nat.mod_mul (x := a) (a := 256 ^ k) (b := 256)
    have eb := Nat.mod_mul (x := b) (a := 256 ^ k) (b := 256)
    have la := Nat.mod_lt a (y := 256 ^ k) (by exact Nat.pow_pos (by omega))
    have lb := Nat.mod_lt b (y := 256 ^ k) (by exact Nat.pow_pos (by omega))
    have e1 : decide (UInt8.ofNat (a / 256 ^ k % 256) < UInt8.ofNat (b / 256 ^ k % 256)) = decide (a / 256 ^ k % 256 < b / 256 ^ k % 256) := by
      rw [decide_eq_decide, UInt8.lt_iff_toNat_lt, ha, hb]
    have e2 : (UInt8.ofNat (a / 256 ^ k % 256) == UInt8.ofNat (b / 256 ^ k % 256)) = decide (a / 256 ^ k % 256 = b / 256 ^ k % 256) := by
      rw [Bool.eq_iff_iff, beq_iff_eq, decide_eq_true_iff, ← UInt8.toNat_inj, ha, hb]
    rw [e1, e2, Nat.pow_succ, ea, eb]
    generalize a / 256 ^ k % 256 = x at *
    generalize b / 256 ^ k % 256 = y at *
    generalize a % 256 ^ k = u at *
    generalize b % 256 ^ k = v at *
    generalize 256 ^ k = p at *
    rw [Bool.eq_iff_iff]
    simp only [Bool.or_eq_true, Bool.and_eq_true, decide_eq_true_iff]
    constructor
    · rintro (h | ⟨h, h'⟩)
      · have : p * (x + 1) ≤ p * y := Nat.mul_le_mul_left p h
        rw [Nat.mul_add] at this; omega
      · subst h; omega
    · intro h
      rcases Nat.lt_trichotomy x y with h1 | h1 | h1
      · exact .inl h1
      · subst h1; exact .inr ⟨rfl, by omega⟩
      · have : p * (y + 1) ≤ p * x := Nat.mul_le_mul_left p h1
        rw [Nat.mul_add] at this; omega

end Go.Proofs.Ytikodobglhjoiaa
