/-
  Records as plain lists of bytes: what is put, what stands at a place, what ends there, which stand from there on. No program in sight.
-/
import Derived.Test.YtjcdkekmploelaaCrc
namespace Go.Proofs.Ytjcdkekmploelaa
open Go.RowKit
set_option linter.unusedVariables false

def recL (p : List UInt8) : List UInt8 := sealL (be 4 p.length ++ p) ++ be 4 p.length
def putR (p : List UInt8) : List UInt8 := if 2000 < p.length then [] else recL p
def putE (p : List UInt8) : Int := if 2000 < p.length then 3 else 0
theorem length_recL (p : List UInt8) : (recL p).length = p.length + 12 := by
  unfold recL; rw [List.length_append, sealL_length]; simp; omega
/-- The number that stands at a place. -/
def numAt (l : List UInt8) (a : Nat) : Nat := num ((l.drop a).take 4)
theorem numAt_lt (l : List UInt8) (a : Nat) : numAt l a < 4294967296 := by
  have h := num_lt ((l.drop a).take 4)
  have : (256 : Nat) ^ ((l.drop a).take 4).length ≤ 256 ^ 4 := Nat.pow_le_pow_right (by omega) (by simp; omega)
  unfold numAt; omega
/-- A record stands at a. -/
def recAt (l : List UInt8) (a : Nat) : Bool :=
  decide (a + 12 ≤ l.length) && (decide (numAt l a ≤ 2000) && (decide (a + numAt l a + 12 ≤ l.length) && ((l.drop a).take (numAt l a + 12) == recL ((l.drop (a + 4)).take (numAt l a)))))
def gOk (l : List UInt8) (a : Int) : Bool := decide (0 ≤ a) && recAt l a.toNat
def gA (l : List UInt8) (a : Int) : List UInt8 := if gOk l a then (l.drop (a.toNat + 4)).take (numAt l a.toNat) else []
def gN (l : List UInt8) (a : Int) : Nat := if gOk l a then a.toNat + numAt l a.toNat + 12 else 0
theorem recAt_bounds {l : List UInt8} {a : Nat} (h : recAt l a = true) : a + 12 ≤ l.length ∧ numAt l a ≤ 2000 ∧ a + numAt l a + 12 ≤ l.length := by
  unfold recAt at h
  simp only [Bool.and_eq_true, decide_eq_true_eq] at h
  exact ⟨h.1, h.2.1, h.2.2.1⟩
/-- The tests of the code say the same. -/
theorem recAt_open (l : List UInt8) (a n : Nat) (hn : numAt l a = n) (h : a + n + 12 ≤ l.length) :
    (openOk ((l.drop a).take (n + 8)) && ((l.drop (a + n + 8)).take 4 == (l.drop a).take 4)) = ((l.drop a).take (n + 12) == recL ((l.drop (a + 4)).take n)) := by
  have hF : ((l.drop a).take 4).length = 4 := by simp; omega
  have hbe : be 4 n = (l.drop a).take 4 := by
    have := be_num ((l.drop a).take 4)
    rw [hF] at this
    rw [← hn]; exact this
  have hP : ((l.drop (a + 4)).take n).length = n := by simp; omega
  have eX : (l.drop a).take (n + 8) = ((l.drop a).take 4 ++ (l.drop (a + 4)).take n) ++ (l.drop (a + 4 + n)).take 4 := by
    rw [show n + 8 = (4 + n) + 4 from by omega, List.take_add, List.take_add, List.drop_drop, List.drop_drop]
    rw [Nat.add_assoc a 4 n]
  have eX12 : (l.drop a).take (n + 12) = (l.drop a).take (n + 8) ++ (l.drop (a + n + 8)).take 4 := by
    rw [show n + 12 = (n + 8) + 4 from by omega, List.take_add, List.drop_drop, Nat.add_assoc a n 8]
  have hT : ((l.drop (a + 4 + n)).take 4).length = 4 := by simp; omega
  have hXl : ((l.drop a).take (n + 8)).length = n + 8 := by simp; omega
  have hoX : openOk ((l.drop a).take (n + 8)) = ((l.drop a).take (n + 8) == sealL (be 4 n ++ (l.drop (a + 4)).take n)) := by
    rw [hbe]
    unfold openOk
    rw [hXl, decide_eq_true (by omega : 4 ≤ n + 8), Bool.true_and, show n + 8 - 4 = n + 4 from by omega]
    generalize (l.drop a).take 4 = F at *
    generalize (l.drop (a + 4)).take n = P at *
    generalize (l.drop (a + 4 + n)).take 4 = T at *
    rw [eX]
    have e1 : (F ++ P ++ T).take (n + 4) = F ++ P := by
      rw [List.take_append_of_le_length (by simp; omega)]; exact List.take_of_length_le (by simp; omega)
    have e2 : (F ++ P ++ T).drop (n + 4) = T := by
      have : (F ++ P).length = n + 4 := by simp; omega
      rw [← this, List.drop_left]
    rw [e1, e2]
    unfold sealL
    rw [Bool.eq_iff_iff, beq_iff_eq, beq_iff_eq]
    constructor
    · intro h; rw [h]
    · intro h; exact (List.append_cancel_left h).symm
  have e3 : recL ((l.drop (a + 4)).take n) = sealL (be 4 n ++ (l.drop (a + 4)).take n) ++ be 4 n := by unfold recL; rw [hP]
  rw [hoX, e3, eX12, ← hbe]
  have hsl : (sealL (be 4 n ++ (l.drop (a + 4)).take n)).length = n + 8 := by rw [sealL_length]; simp; omega
  generalize (l.drop a).take (n + 8) = X at *
  generalize sealL (be 4 n ++ (l.drop (a + 4)).take n) = Y at *
  generalize (l.drop (a + n + 8)).take 4 = U at *
  rw [Bool.eq_iff_iff, Bool.and_eq_true, beq_iff_eq, beq_iff_eq, beq_iff_eq]
  constructor
  · rintro ⟨h1, h2⟩; rw [h1, h2]
  · intro h
    have := List.append_inj h (by omega)
    exact this
theorem open_body (l : List UInt8) (a n : Nat) (h : a + n + 12 ≤ l.length) (ho : openOk ((l.drop a).take (n + 8)) = true) : (openA ((l.drop a).take (n + 8))).drop 4 = (l.drop (a + 4)).take n := by
  unfold openA
  rw [ho, if_pos rfl]
  have hXl : ((l.drop a).take (n + 8)).length = n + 8 := by simp; omega
  rw [hXl, show n + 8 - 4 = n + 4 from by omega, List.take_take, Nat.min_eq_left (by omega), List.drop_take, List.drop_drop]
  rw [show n + 4 - 4 = n from by omega]
/-- The record that ends at e. -/
def bN (l : List UInt8) (e : Int) : Nat := num ((l.drop (e.toNat - 4)).take 4)
def bOk (l : List UInt8) (e : Int) : Bool :=
  decide (12 ≤ e ∧ e ≤ l.length) && (decide (bN l e ≤ 2000 ∧ (bN l e : Int) + 12 ≤ e) && (gOk l (e - 12 - bN l e) && ((gN l (e - 12 - bN l e) : Int) == e)))
def bA (l : List UInt8) (e : Int) : List UInt8 := if bOk l e then gA l (e - 12 - bN l e) else []
def bP (l : List UInt8) (e : Int) : Int := if bOk l e then e - 12 - bN l e else 0
/-- The records from a place on: where they stand, and where they end. -/
def wholeL (l : List UInt8) : Nat → Nat → List Nat × Nat
  | 0, a => ([], a)
  | k + 1, a => if recAt l a then ((a :: (wholeL l k (a + numAt l a + 12)).1), (wholeL l k (a + numAt l a + 12)).2) else ([], a)
def wAt (l : List UInt8) (from_ : Int) : List Nat := if from_ < 0 ∨ (l.length : Int) < from_ then [] else (wholeL l l.length from_.toNat).1
def wEnd (l : List UInt8) (from_ : Int) : Nat := if from_ < 0 ∨ (l.length : Int) < from_ then 0 else (wholeL l l.length from_.toNat).2
theorem wholeL_stop {l : List UInt8} {a : Nat} (h : recAt l a = false) (k : Nat) : wholeL l k a = ([], a) := by
  cases k with
  | zero => rfl
  | succ k => simp [wholeL, h]
theorem wholeL_yes {l : List UInt8} {a : Nat} (h : recAt l a = true) (k : Nat) : wholeL l (k + 1) a = (a :: (wholeL l k (a + numAt l a + 12)).1, (wholeL l k (a + numAt l a + 12)).2) := by
  rw [wholeL]; exact if_pos h
theorem wholeL_more (l : List UInt8) : ∀ (k a : Nat), l.length ≤ k + a → wholeL l (k + 1) a = wholeL l k a := by
  intro k
  induction k with
  | zero =>
    intro a h
    have : recAt l a = false := by
      rcases hr : recAt l a with _ | _
      · rfl
      · have := recAt_bounds hr; omega
    rw [wholeL_stop this, wholeL_stop this]
  | succ k ih =>
    intro a h
    by_cases hr : recAt l a = true
    · rw [wholeL_yes hr, wholeL_yes hr, ih _ (by omega)]
    · have : recAt l a = false := by simpa using hr
      rw [wholeL_stop this, wholeL_stop this]
theorem wholeL_enough (l : List UInt8) (k a j : Nat) (h : l.length ≤ k + a) : wholeL l (k + j) a = wholeL l k a := by
  induction j with
  | zero => rfl
  | succ j ih => rw [← Nat.add_assoc, wholeL_more l (k + j) a (by omega), ih]
theorem wholeL_go {l : List UInt8} {a : Nat} (h : recAt l a = true) : wholeL l l.length a = (a :: (wholeL l l.length (a + numAt l a + 12)).1, (wholeL l l.length (a + numAt l a + 12)).2) := by
  rw [← wholeL_more l l.length a (by omega), wholeL_yes h]
end Go.Proofs.Ytjcdkekmploelaa
