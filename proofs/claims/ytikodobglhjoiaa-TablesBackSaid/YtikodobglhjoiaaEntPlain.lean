/-
  THE PLAIN LAW OF AN ENTRY'S BYTES.
-/
import Derived.Test.YtikodobglhjoiaaEntGet
import Derived.Test.YtikodobglhjoiaaNumsLess
namespace Go.Proofs.Ytikodobglhjoiaa
set_option linter.unusedVariables false

def mayE (e : Ent) : Bool := decide (0 ≤ e.2.1 ∧ 0 ≤ e.2.2)
theorem putEnt_may {e : Ent} (h : mayE e = true) : putEnt e = be 8 e.1 ++ be 8 e.2.1.toNat ++ be 8 e.2.2.toNat := by
  have := of_decide_eq_true h
  unfold putEnt; rw [if_neg (by omega)]
theorem putEnt_no {e : Ent} (h : mayE e = false) : putEnt e = [] := by
  have := of_decide_eq_false h
  unfold putEnt; rw [if_pos (by omega)]
theorem putEnt_length {e : Ent} (h : mayE e = true) : (putEnt e).length = 24 := by rw [putEnt_may h]; simp
theorem getE_nil : getE [] = (0, 0, 0) ∧ okG [] = false := ⟨rfl, rfl⟩
theorem bytesLess_append : ∀ {x y : List UInt8} (u v : List UInt8), x.length = y.length → Op.bytesLess (x ++ u) (y ++ v) = (Op.bytesLess x y || (decide (x = y) && Op.bytesLess u v)) := by
  intro x
  induction x with
  | nil => intro y u v h; cases y with
    | nil => simp [Op.bytesLess]
    | cons b y => simp at h
  | cons a x ih =>
    intro y u v h
    cases y with
    | nil => simp at h
    | cons b y =>
      have := ih (y := y) u v (by simpa using h)
      simp only [List.cons_append, Op.bytesLess, this]
      by_cases hab : a = b
      · subst hab; simp
      · have h1 : (a == b) = false := by simpa using hab
        simp [h1, hab]
theorem be8_inj {a b : Nat} (ha : a < 18446744073709551616) (hb : b < 18446744073709551616) : be 8 a = be 8 b ↔ a = b := by
  constructor
  · intro h
    have h1 := num_be 8 a
    have h2 := num_be 8 b
    rw [h] at h1
    have h3 := h1.symm.trans h2
    omega
  · rintro rfl; rfl
theorem less_be8 {a b : Nat} (ha : a < 18446744073709551616) (hb : b < 18446744073709551616) : Op.bytesLess (be 8 a) (be 8 b) = decide (a < b) := by
  rw [bytesLess_be]
  have e1 : a % 256 ^ 8 = a := Nat.mod_eq_of_lt (by omega)
  have e2 : b % 256 ^ 8 = b := Nat.mod_eq_of_lt (by omega)
  rw [e1, e2]
theorem putEnt_less {a b : Ent} (ha : okE a) (hb : okE b) (ma : mayE a = true) (mb : mayE b = true) : Op.bytesLess (putEnt a) (putEnt b) = lessE a b := by
  rw [putEnt_may ma, putEnt_may mb]
  obtain ⟨a1, a2, a3⟩ := a
  obtain ⟨b1, b2, b3⟩ := b
  obtain ⟨oa1, oa2, oa3⟩ := ha
  obtain ⟨ob1, ob2, ob3⟩ := hb
  have qa := of_decide_eq_true ma
  have qb := of_decide_eq_true mb
  simp only [] at *
  rw [bytesLess_append _ _ (by simp), bytesLess_append _ _ (by simp), less_be8 oa1 ob1, less_be8 (by omega) (by omega), less_be8 (by omega) (by omega)]
  have e1 : decide (be 8 a1 ++ be 8 a2.toNat = be 8 b1 ++ be 8 b2.toNat) = decide (a1 = b1 ∧ a2 = b2) := by
    rw [decide_eq_decide]
    constructor
    · intro h
      obtain ⟨h1, h2⟩ := List.append_inj h (by simp)
      have := (be8_inj oa1 ob1).1 h1
      have := (be8_inj (by omega) (by omega)).1 h2
      omega
    · rintro ⟨rfl, rfl⟩; rfl
  have e2 : decide (be 8 a1 = be 8 b1) = decide (a1 = b1) := by rw [decide_eq_decide]; exact be8_inj oa1 ob1
  rw [e1, e2, Bool.eq_iff_iff]
  simp only [lessE, Bool.or_eq_true, Bool.and_eq_true, decide_eq_true_eq]
  omega
theorem putEnt_eq {a b : Ent} (ha : okE a) (hb : okE b) (ma : mayE a = true) (mb : mayE b = true) : putEnt a = putEnt b ↔ (a.1 = b.1 ∧ a.2.1 = b.2.1 ∧ a.2.2 = b.2.2) := by
  rw [putEnt_may ma, putEnt_may mb]
  obtain ⟨a1, a2, a3⟩ := a
  obtain ⟨b1, b2, b3⟩ := b
  obtain ⟨oa1, oa2, oa3⟩ := ha
  obtain ⟨ob1, ob2, ob3⟩ := hb
  have qa := of_decide_eq_true ma
  have qb := of_decide_eq_true mb
  simp only [] at *
  constructor
  · intro h
    obtain ⟨h1, h3⟩ := List.append_inj h (by simp)
    obtain ⟨h1, h2⟩ := List.append_inj h1 (by simp)
    have := (be8_inj oa1 ob1).1 h1
    have := (be8_inj (by omega) (by omega)).1 h2
    have := (be8_inj (by omega) (by omega)).1 h3
    omega
  · rintro ⟨rfl, rfl, rfl⟩; rfl
theorem getE_put {e : Ent} (ho : okE e) (hm : mayE e = true) : okG (putEnt e) = true ∧ getE (putEnt e) = e := by
  obtain ⟨h, v, p⟩ := e
  obtain ⟨o1, o2, o3⟩ := ho
  have q := of_decide_eq_true hm
  simp only [] at o1 o2 o3 q
  have hp := putEnt_may hm
  simp only [] at hp
  have l1 : (be 8 h ++ be 8 v.toNat).length = 16 := by simp
  have e1 : hE (putEnt (h, v, p)) = h := by
    unfold hE; rw [hp, List.append_assoc, List.take_left' (by simp), num_be]; exact Nat.mod_eq_of_lt o1
  have e2 : vE (putEnt (h, v, p)) = v.toNat := by
    unfold vE; rw [hp, List.append_assoc, List.drop_left' (by simp), List.take_left' (by simp), num_be]; exact Nat.mod_eq_of_lt (by omega)
  have e3 : pE (putEnt (h, v, p)) = p.toNat := by
    unfold pE; rw [hp, List.drop_left' l1, num_be]; exact Nat.mod_eq_of_lt (by omega)
  have e4 : okG (putEnt (h, v, p)) = true := by
    unfold okG; rw [putEnt_length hm, e2, e3]; simp; omega
  refine ⟨e4, ?_⟩
  unfold getE
  rw [e4, if_pos rfl, e1, e2, e3]
  have r1 : ((v.toNat : Nat) : Int) = v := by omega
  have r2 : ((p.toNat : Nat) : Int) = p := by omega
  rw [r1, r2]
/-- What is got is put as it stood. -/
theorem put_getE {l : List UInt8} (h : okG l = true) : putEnt (getE l) = l ∧ mayE (getE l) = true ∧ okE (getE l) := by
  have h' := of_decide_eq_true h
  obtain ⟨h1, h2, h3⟩ := h'
  have hh := hE_lt l
  have hm : mayE (hE l, (vE l : Int), (pE l : Int)) = true := decide_eq_true (by simp only []; omega)
  unfold getE
  rw [h, if_pos rfl]
  refine ⟨?_, hm, ⟨hh, by simp only []; omega, by simp only []; omega⟩⟩
  rw [putEnt_may hm]
  simp only [Int.toNat_natCast]
  have s1 : (l.take 8).length = 8 := by simp; omega
  have s2 : ((l.drop 8).take 8).length = 8 := by simp; omega
  have s3 : (l.drop 16).length = 8 := by simp; omega
  have b1 : be 8 (hE l) = l.take 8 := by unfold hE; conv => rhs; rw [← be_num (l.take 8), s1]
  have b2 : be 8 (vE l) = (l.drop 8).take 8 := by unfold vE; conv => rhs; rw [← be_num ((l.drop 8).take 8), s2]
  have b3 : be 8 (pE l) = l.drop 16 := by unfold pE; conv => rhs; rw [← be_num (l.drop 16), s3]
  rw [b1, b2, b3]
  have e1 : l.drop 16 = (l.drop 8).drop 8 := by rw [List.drop_drop]
  rw [e1, List.append_assoc, List.take_append_drop, List.take_append_drop]
end Go.Proofs.Ytikodobglhjoiaa
