/-
  Bits as bytes, and the bits of some hashes. No program in sight.
-/
import Derived.Test.YtpoeginnoocenaaBloomHas
namespace Go.Proofs.Ytpoeginnoocenaa
open Go.RowKit
set_option linter.unusedVariables false

def byteN (b0 b1 b2 b3 b4 b5 b6 b7 : Bool) : Nat := b0.toNat + 2 * b1.toNat + 4 * b2.toNat + 8 * b3.toNat + 16 * b4.toNat + 32 * b5.toNat + 64 * b6.toNat + 128 * b7.toNat
def byte8 (f : Nat → Bool) : Nat := byteN (f 0) (f 1) (f 2) (f 3) (f 4) (f 5) (f 6) (f 7)
theorem byteN_lt (b0 b1 b2 b3 b4 b5 b6 b7 : Bool) : byteN b0 b1 b2 b3 b4 b5 b6 b7 < 256 := by
  revert b0 b1 b2 b3 b4 b5 b6 b7; decide +kernel
theorem byte8_lt (f : Nat → Bool) : byte8 f < 256 := byteN_lt _ _ _ _ _ _ _ _
theorem byteN_or : ∀ b0 b1 b2 b3 b4 b5 b6 b7 : Bool, ∀ r, r < 8 → byteN (b0 || r == 0) (b1 || r == 1) (b2 || r == 2) (b3 || r == 3) (b4 || r == 4) (b5 || r == 5) (b6 || r == 6) (b7 || r == 7) = (byteN b0 b1 b2 b3 b4 b5 b6 b7 ||| 2 ^ r) := by decide +kernel
theorem byteN_bit : ∀ b0 b1 b2 b3 b4 b5 b6 b7 : Bool, ∀ r, r < 8 → (byteN b0 b1 b2 b3 b4 b5 b6 b7 / 2 ^ r % 2 == 1) = [b0, b1, b2, b3, b4, b5, b6, b7].getD r false := by decide +kernel
theorem byte8_or (f : Nat → Bool) (r : Nat) (hr : r < 8) : byte8 (fun i => f i || r == i) = (byte8 f ||| 2 ^ r) := byteN_or _ _ _ _ _ _ _ _ r hr
theorem byte8_bit (f : Nat → Bool) (r : Nat) (hr : r < 8) : (byte8 f / 2 ^ r % 2 == 1) = f r := by
  unfold byte8
  rw [byteN_bit _ _ _ _ _ _ _ _ r hr]
  match r, hr with
  | 0, _ => rfl
  | 1, _ => rfl
  | 2, _ => rfl
  | 3, _ => rfl
  | 4, _ => rfl
  | 5, _ => rfl
  | 6, _ => rfl
  | 7, _ => rfl
def packL (f : Nat → Bool) (k : Nat) : List UInt8 := (List.range k).map fun j => UInt8.ofNat (byte8 fun i => f (8 * j + i))
@[simp] theorem length_packL (f : Nat → Bool) (k : Nat) : (packL f k).length = k := by simp [packL]
theorem packL_get (f : Nat → Bool) (k j : Nat) (h : j < (packL f k).length) : (packL f k)[j] = UInt8.ofNat (byte8 fun i => f (8 * j + i)) := by simp [packL]
theorem packL_toNat (f : Nat → Bool) (k j : Nat) (h : j < (packL f k).length) : ((packL f k)[j]).toNat = byte8 fun i => f (8 * j + i) := by
  rw [packL_get]; have := byte8_lt fun i => f (8 * j + i); simp; omega
theorem packL_none (k : Nat) : packL (fun _ => false) k = List.replicate k 0 := by
  apply List.ext_getElem
  · simp
  · intro i h1 h2
    rw [packL_get]; simp [byte8, byteN]
theorem byte8_congr {f g : Nat → Bool} (h : ∀ i, i < 8 → f i = g i) : byte8 f = byte8 g := by
  unfold byte8
  rw [h 0 (by omega), h 1 (by omega), h 2 (by omega), h 3 (by omega), h 4 (by omega), h 5 (by omega), h 6 (by omega), h 7 (by omega)]
/-- A bit is set. -/
theorem packL_set (f : Nat → Bool) (k b : Nat) (hb : b / 8 < k) :
    (packL f k).set (b / 8) (UInt8.ofNat ((byte8 fun i => f (8 * (b / 8) + i)) ||| 2 ^ (b % 8))) = packL (fun x => f x || b == x) k := by
  apply List.ext_getElem
  · simp
  · intro j h1 h2
    rw [packL_get]
    by_cases hj : j = b / 8
    · subst hj
      rw [List.getElem_set_self, ← byte8_or _ (b % 8) (by omega)]
      congr 1
      refine byte8_congr fun i hi => ?_
      congr 1
      rw [Bool.eq_iff_iff, beq_iff_eq, beq_iff_eq]; omega
    · rw [List.getElem_set_ne (by omega), packL_get]
      congr 1
      refine byte8_congr fun i hi => ?_
      have e : (b == 8 * j + i) = false := by rw [beq_eq_false_iff_ne]; omega
      rw [e, Bool.or_false]
theorem bitL_packL (f : Nat → Bool) (k b : Nat) (hb : b < 8 * k) : bitL (packL f k) b = f b := by
  have hq : b / 8 < (packL f k).length := by simp; omega
  unfold bitL
  rw [List.getD_eq_getElem?_getD, List.getElem?_eq_getElem hq, Option.getD_some, packL_toNat, byte8_bit _ _ (by omega)]
  congr 1; omega
theorem packL_congr {f g : Nat → Bool} {k : Nat} (h : ∀ b, b < 8 * k → f b = g b) : packL f k = packL g k := by
  apply List.ext_getElem
  · simp
  · intro j h1 h2
    rw [packL_get, packL_get]
    congr 1
    exact byte8_congr fun i hi => h _ (by simp at h1; omega)
/-- Which bits hashes set. -/
def onB (l : List Nat) (n : Int) (B : Nat) (b : Nat) : Bool := l.any fun h => (probesL h B (manyN n)).contains b
def orList (f : Nat → Bool) (xs : List Nat) (b : Nat) : Bool := f b || xs.contains b
theorem orList_nil (f : Nat → Bool) : orList f [] = f := by funext b; simp [orList]
theorem orList_snoc (f : Nat → Bool) (xs : List Nat) (x : Nat) : orList f (xs ++ [x]) = fun b => orList f xs b || x == b := by
  funext b
  unfold orList
  rw [Bool.or_assoc]
  congr 1
  rw [Bool.eq_iff_iff]
  simp only [List.contains_eq_mem, decide_eq_true_eq, List.mem_append, List.mem_singleton, Bool.or_eq_true, beq_iff_eq]
  constructor
  · rintro (h | h)
    · exact .inl h
    · exact .inr h.symm
  · rintro (h | h)
    · exact .inl h
    · exact .inr h.symm
theorem onB_nil (n : Int) (B : Nat) : onB [] n B = fun _ => false := rfl
theorem onB_snoc (l : List Nat) (n : Int) (B h : Nat) : onB (l ++ [h]) n B = orList (onB l n B) (probesL h B (manyN n)) := by
  funext b; simp [onB, orList]
def makeL (l : List Nat) (n bits : Int) : List UInt8 := if bits < 1 ∨ 1000000 < bits ∨ bits % 8 ≠ 0 then [] else packL (onB l n bits.toNat) (bits.toNat / 8)
end Go.Proofs.Ytpoeginnoocenaa
