/-
  PAGES: whether a hash may be there, by the document.
-/
import Derived.Test.YtpoeginnoocenaaPage01
namespace Go.Proofs.Ytpoeginnoocenaa
open Go.RowKit
set_option linter.unusedVariables false

def probesF (L : List UInt8) : Nat := (L.getD 3 0).toNat
def sizeF (L : List UInt8) : Nat := getN ((L.drop 4).take 4)
def okF (L : List UInt8) : Bool := decide (64 ≤ L.length) && (mayI (sizeF L) (probesF L) && decide (L.take 64 = headP (sizeF L) (probesF L)))
def rawF (L : List UInt8) (n : Nat) : List UInt8 := (L.drop ((n + 1) * 64)).take 64
def pageF (L : List UInt8) (n : Nat) : Option (List UInt8) := if (n + 2) * 64 ≤ L.length ∧ openOk (rawF L n) = true then some (openA (rawF L n)) else none
def bitF (L : List UInt8) (b : Nat) : Bool := match pageF L (b / 480) with
  | none => true
  | some p => bitL p (b % 480)
def mayF (L : List UInt8) (h : Nat) : Bool := !okF L || (List.range (probesF L)).all fun i => bitF L (prN h i (8 * sizeF L))
theorem mayF_not {L : List UInt8} (h : Nat) (ho : okF L = false) : mayF L h = true := by unfold mayF; rw [ho]; rfl
theorem mayF_no {L : List UInt8} {h i : Nat} (ho : okF L = true) (hi : i < probesF L) (hb : bitF L (prN h i (8 * sizeF L)) = false) : mayF L h = false := by
  unfold mayF
  rw [ho]
  simp only [Bool.not_true, Bool.false_or]
  rw [← Bool.not_eq_true, List.all_eq_true]
  intro hall
  have := hall i (List.mem_range.2 hi)
  rw [hb] at this; cases this
theorem mayF_yes {L : List UInt8} {h : Nat} (hall : ∀ i, i < probesF L → bitF L (prN h i (8 * sizeF L)) = true) : mayF L h = true := by
  unfold mayF
  rw [Bool.or_eq_true]
  exact .inr (List.all_eq_true.2 fun i hi => hall i (List.mem_range.1 hi))
theorem openA_len {l : List UInt8} (h : openOk l = true) : (openA l).length + 4 = l.length := by
  unfold openA
  rw [if_pos h]
  unfold openOk at h
  simp only [Bool.and_eq_true, decide_eq_true_eq] at h
  rw [List.length_take]; omega
theorem rawF_len {L : List UInt8} {n : Nat} (h : (n + 2) * 64 ≤ L.length) : (rawF L n).length = 64 := by
  unfold rawF
  rw [List.length_take, List.length_drop]; omega
theorem pageF_none {L : List UInt8} {n : Nat} (h : ¬ (n + 2) * 64 ≤ L.length) : pageF L n = none := by unfold pageF; rw [if_neg (fun h9 => h h9.1)]
theorem pageF_shut {L : List UInt8} {n : Nat} (h : openOk (rawF L n) = false) : pageF L n = none := by unfold pageF; rw [if_neg (fun h9 => by rw [h] at h9; cases h9.2)]
theorem pageF_some {L : List UInt8} {n : Nat} (h1 : (n + 2) * 64 ≤ L.length) (h2 : openOk (rawF L n) = true) : pageF L n = some (openA (rawF L n)) := by unfold pageF; rw [if_pos ⟨h1, h2⟩]
theorem bitF_none {L : List UInt8} {b : Nat} (h : pageF L (b / 480) = none) : bitF L b = true := by unfold bitF; rw [h]
theorem bitF_some {L : List UInt8} {b : Nat} {p : List UInt8} (h : pageF L (b / 480) = some p) : bitF L b = bitL p (b % 480) := by unfold bitF; rw [h]
theorem extract_raw (s : ByteArray) (n a : Nat) (h : a = (n + 1) * 64) : lb (s.extract a (a + 64)) = rawF (lb s) n := by
  subst h
  rw [bs_extract, lb_bs]
  unfold rawF
  rw [show (n + 1) * 64 + 64 - (n + 1) * 64 = 64 by omega]
theorem sizeF_eq (s : ByteArray) : getN (lb (s.extract 4 8)) = sizeF (lb s) := by
  rw [bs_extract, lb_bs]; rfl
theorem take64 (s : ByteArray) : lb (s.extract 0 64) = (lb s).take 64 := by
  rw [bs_extract, lb_bs]; simp
theorem probesF_eq (s : ByteArray) (h : 3 < s.size) : probesF (lb s) = s[3].toNat := by
  unfold probesF
  rw [List.getD_eq_getElem?_getD, List.getElem?_eq_getElem (by rw [length_lb]; exact h)]
  rfl
end Go.Proofs.Ytpoeginnoocenaa
