/-
  CRC-32 as plain arithmetic on numbers below 2^32: it is linear, and its steps are one to one. No program in sight.
-/
import Derived.Test.YtpoeginnoocenaaPlain
namespace Go.Proofs.Ytpoeginnoocenaa
open Go.RowKit
set_option linter.unusedVariables false

def crcBit (s : Nat) : Nat := (s / 2) ^^^ (if s % 2 = 1 then 3988292384 else 0)
def crcBits : Nat → Nat → Nat
  | 0, s => s
  | k + 1, s => crcBits k (crcBit s)
def crcStep (s c : Nat) : Nat := crcBits 8 (s ^^^ c)
def crcRun (s : Nat) (l : List UInt8) : Nat := l.foldl (fun s c => crcStep s c.toNat) s
def flip32 (s : Nat) : Nat := 4294967295 - s
def moreL (s : Nat) (l : List UInt8) : Nat := flip32 (crcRun (flip32 s) l)
def sumL (l : List UInt8) : Nat := moreL 0 l

theorem xor_mod_two (a b : Nat) : (a ^^^ b) % 2 = (a % 2 + b % 2) % 2 := by
  have h := Nat.xor_mod_two_pow (a := a) (b := b) (n := 1)
  simp only [Nat.pow_one] at h
  rw [h]
  rcases Nat.mod_two_eq_zero_or_one a with ha | ha <;> rcases Nat.mod_two_eq_zero_or_one b with hb | hb <;> rw [ha, hb] <;> rfl
theorem crcBit_xor (a b : Nat) : crcBit (a ^^^ b) = crcBit a ^^^ crcBit b := by
  unfold crcBit
  rw [Nat.xor_div_two, xor_mod_two]
  generalize 3988292384 = p
  rcases Nat.mod_two_eq_zero_or_one a with ha | ha <;> rcases Nat.mod_two_eq_zero_or_one b with hb | hb <;> rw [ha, hb] <;> simp
  · rw [Nat.xor_assoc]
  · rw [Nat.xor_assoc, Nat.xor_comm (b / 2), ← Nat.xor_assoc]
  · rw [Nat.xor_assoc, Nat.xor_comm p, Nat.xor_assoc (b / 2), Nat.xor_self, Nat.xor_zero]
theorem crcBit_lt {a : Nat} (h : a < 4294967296) : crcBit a < 4294967296 := by
  unfold crcBit
  exact Nat.xor_lt_two_pow (n := 32) (by omega) (by split <;> omega)
theorem xor_eq_zero {a b : Nat} (h : a ^^^ b = 0) : a = b := by
  have := congrArg (· ^^^ b) h
  simp only [Nat.xor_assoc, Nat.xor_self, Nat.xor_zero, Nat.zero_xor] at this
  exact this
theorem crcBit_eq_zero {x : Nat} (h : x < 4294967296) (e : crcBit x = 0) : x = 0 := by
  unfold crcBit at e
  have e1 := xor_eq_zero e
  by_cases hx : x % 2 = 1
  · rw [if_pos hx] at e1; omega
  · rw [if_neg hx] at e1; omega
theorem xor_lt {a b : Nat} (ha : a < 4294967296) (hb : b < 4294967296) : a ^^^ b < 4294967296 := Nat.xor_lt_two_pow (n := 32) ha hb
theorem crcBits_xor (k a b : Nat) : crcBits k (a ^^^ b) = crcBits k a ^^^ crcBits k b := by
  induction k generalizing a b with
  | zero => rfl
  | succ k ih => simp only [crcBits]; rw [crcBit_xor, ih]
theorem crcBits_lt (k : Nat) {a : Nat} (h : a < 4294967296) : crcBits k a < 4294967296 := by
  induction k generalizing a with
  | zero => exact h
  | succ k ih => exact ih (crcBit_lt h)
theorem crcBits_eq_zero (k : Nat) {x : Nat} (h : x < 4294967296) (e : crcBits k x = 0) : x = 0 := by
  induction k generalizing x with
  | zero => exact e
  | succ k ih => exact crcBit_eq_zero h (ih (crcBit_lt h) e)
theorem crcBits_inj (k : Nat) {a b : Nat} (ha : a < 4294967296) (hb : b < 4294967296) (e : crcBits k a = crcBits k b) : a = b := by
  apply xor_eq_zero
  apply crcBits_eq_zero k (xor_lt ha hb)
  rw [crcBits_xor, e, Nat.xor_self]
theorem crcBits_add (j k s : Nat) : crcBits (j + k) s = crcBits k (crcBits j s) := by
  induction j generalizing s with
  | zero => simp [crcBits]
  | succ j ih => rw [Nat.succ_add]; simp only [crcBits]; exact ih _
theorem crcBits_shift (k L : Nat) : crcBits k (2 ^ k * L) = L := by
  induction k with
  | zero => simp [crcBits]
  | succ k ih =>
    have e : crcBit (2 ^ (k + 1) * L) = 2 ^ k * L := by
      unfold crcBit
      have h1 : 2 ^ (k + 1) * L / 2 = 2 ^ k * L := by rw [Nat.pow_succ, Nat.mul_comm (2 ^ k) 2, Nat.mul_assoc]; simp
      have h2 : 2 ^ (k + 1) * L % 2 = 0 := by rw [Nat.pow_succ, Nat.mul_comm (2 ^ k) 2, Nat.mul_assoc]; simp
      rw [h1, h2]; simp
    simp only [crcBits]; rw [e, ih]

/-- The number of bytes, the lowest first. -/
def le : List UInt8 → Nat
  | [] => 0
  | c :: l => c.toNat + 256 * le l
theorem le_lt (l : List UInt8) : le l < 256 ^ l.length := by
  induction l with
  | nil => simp [le]
  | cons c l ih =>
    have hc := c.toNat_lt
    simp only [le, List.length_cons, Nat.pow_succ]
    omega
theorem le_inj : ∀ {x y : List UInt8}, x.length = y.length → le x = le y → x = y
  | [], [], _, _ => rfl
  | a :: x, b :: y, h, e => by
    have ha := a.toNat_lt
    have hb := b.toNat_lt
    simp only [le] at e
    have h1 : a = b := UInt8.toNat_inj.1 (by omega)
    have h2 : x = y := le_inj (by simpa using h) (by omega)
    rw [h1, h2]
theorem crcRun_cons (s : Nat) (c : UInt8) (l : List UInt8) : crcRun s (c :: l) = crcRun (crcStep s c.toNat) l := rfl
theorem crcRun_append (s : Nat) (a b : List UInt8) : crcRun s (a ++ b) = crcRun (crcRun s a) b := by unfold crcRun; rw [List.foldl_append]
theorem crcRun_snoc (s : Nat) (a : List UInt8) (c : UInt8) : crcRun s (a ++ [c]) = crcStep (crcRun s a) c.toNat := by rw [crcRun_append]; rfl
theorem crcRun_le (l : List UInt8) : ∀ s, crcRun s l = crcBits (8 * l.length) (s ^^^ le l) := by
  induction l with
  | nil => intro s; simp [crcRun, crcBits, le]
  | cons c l ih =>
    intro s
    have hc := c.toNat_lt
    rw [crcRun_cons, ih]
    unfold crcStep
    have e1 : c.toNat + 256 * le l = c.toNat ^^^ (2 ^ 8 * le l) := by
      have h := Nat.two_pow_add_eq_or_of_lt (i := 8) (b := c.toNat) (by omega) (le l)
      have h2 : c.toNat ^^^ 2 ^ 8 * le l = 2 ^ 8 * le l + c.toNat := by
        rw [h]
        apply Nat.eq_of_testBit_eq
        intro i
        rw [Nat.testBit_xor, Nat.testBit_or]
        by_cases hi : i < 8
        · have : (2 ^ 8 * le l).testBit i = false := by rw [Nat.testBit_two_pow_mul]; simp; omega
          rw [this]; simp
        · have : c.toNat.testBit i = false := Nat.testBit_lt_two_pow (Nat.lt_of_lt_of_le hc (Nat.pow_le_pow_right (by omega) (by omega) : 2 ^ 8 ≤ 2 ^ i))
          rw [this]; simp
      rw [h2]; omega
    simp only [le, List.length_cons]
    rw [e1, show 8 * (l.length + 1) = 8 + 8 * l.length from by omega, crcBits_add, ← Nat.xor_assoc, crcBits_xor 8 (s ^^^ c.toNat), crcBits_shift]
theorem crcStep_lt {s c : Nat} (h : s < 4294967296) (hc : c < 256) : crcStep s c < 4294967296 := crcBits_lt 8 (xor_lt h (by omega))
theorem crcRun_lt (l : List UInt8) : ∀ {s : Nat}, s < 4294967296 → crcRun s l < 4294967296 := by
  induction l with
  | nil => intro s h; exact h
  | cons c l ih => intro s h; rw [crcRun_cons]; exact ih (crcStep_lt h c.toNat_lt)
theorem crcStep_inj {s t c : Nat} (hs : s < 4294967296) (ht : t < 4294967296) (hc : c < 256) (e : crcStep s c = crcStep t c) : s = t := by
  have h := crcBits_inj 8 (xor_lt hs (by omega)) (xor_lt ht (by omega)) e
  have := congrArg (· ^^^ c) h
  simp only [Nat.xor_assoc, Nat.xor_self, Nat.xor_zero] at this
  exact this
theorem crcRun_inj (l : List UInt8) : ∀ {s t : Nat}, s < 4294967296 → t < 4294967296 → crcRun s l = crcRun t l → s = t := by
  induction l with
  | nil => intro s t _ _ e; exact e
  | cons c l ih =>
    intro s t hs ht e
    rw [crcRun_cons, crcRun_cons] at e
    exact crcStep_inj hs ht c.toNat_lt (ih (crcStep_lt hs c.toNat_lt) (crcStep_lt ht c.toNat_lt) e)
theorem le_lt4 (x : List UInt8) (h : x.length ≤ 4) : le x < 4294967296 := by
  have h1 := le_lt x
  have : (256 : Nat) ^ x.length ≤ 256 ^ 4 := Nat.pow_le_pow_right (by omega) h
  omega
theorem crcRun_window {x y : List UInt8} (hl : x.length = y.length) (h4 : x.length ≤ 4) {s : Nat} (hs : s < 4294967296) (e : crcRun s x = crcRun s y) : x = y := by
  rw [crcRun_le, crcRun_le, ← hl] at e
  have h := crcBits_inj _ (xor_lt hs (le_lt4 x h4)) (xor_lt hs (le_lt4 y (by omega))) e
  apply le_inj hl
  have := congrArg (s ^^^ ·) h
  simp only [← Nat.xor_assoc, Nat.xor_self, Nat.zero_xor] at this
  exact this
theorem crcRun_differs (p q : List UInt8) {x y : List UInt8} (hl : x.length = y.length) (h4 : x.length ≤ 4) {s : Nat} (hs : s < 4294967296) (e : crcRun s (p ++ x ++ q) = crcRun s (p ++ y ++ q)) : x = y := by
  rw [crcRun_append, crcRun_append _ (p ++ y), crcRun_append, crcRun_append _ p y] at e
  have h1 := crcRun_inj q (crcRun_lt x (crcRun_lt p hs)) (crcRun_lt y (crcRun_lt p hs)) e
  exact crcRun_window hl h4 (crcRun_lt p hs) h1
theorem flip_lt (s : Nat) : flip32 s < 4294967296 := by unfold flip32; omega
theorem flip_flip {s : Nat} (h : s < 4294967296) : flip32 (flip32 s) = s := by unfold flip32; omega
theorem flip_inj {s t : Nat} (hs : s < 4294967296) (ht : t < 4294967296) (e : flip32 s = flip32 t) : s = t := by unfold flip32 at e; omega
theorem flip_xor {s : Nat} (h : s < 4294967296) : flip32 s = s ^^^ 4294967295 := by
  unfold flip32
  apply Nat.eq_of_testBit_eq
  intro i
  rw [Nat.testBit_xor]
  have e1 : (4294967295 : Nat) = 2 ^ 32 - 1 := rfl
  have e2 : (4294967295 : Nat).testBit i = decide (i < 32) := by rw [e1, Nat.testBit_two_pow_sub_one]
  rw [e2, show 4294967295 - s = 2 ^ 32 - (s + 1) from by omega, Nat.testBit_two_pow_sub_succ h]
  by_cases hi : i < 32
  · simp [hi]
  · have : s.testBit i = false := Nat.testBit_lt_two_pow (Nat.lt_of_lt_of_le h (Nat.pow_le_pow_right (by omega) (by omega) : 2 ^ 32 ≤ 2 ^ i))
    simp [hi, this]
theorem moreL_lt (s : Nat) (l : List UInt8) : moreL s l < 4294967296 := flip_lt _
theorem sumL_lt (l : List UInt8) : sumL l < 4294967296 := flip_lt _
theorem moreL_append (s : Nat) (a b : List UInt8) : moreL s (a ++ b) = moreL (moreL s a) b := by
  unfold moreL
  rw [flip_flip (crcRun_lt a (flip_lt s)), crcRun_append]
theorem sumL_differs (p q : List UInt8) {x y : List UInt8} (hl : x.length = y.length) (h4 : x.length ≤ 4) (e : sumL (p ++ x ++ q) = sumL (p ++ y ++ q)) : x = y := by
  unfold sumL moreL at e
  exact crcRun_differs p q hl h4 (flip_lt 0) (flip_inj (crcRun_lt _ (flip_lt 0)) (crcRun_lt _ (flip_lt 0)) e)

/-- A sum's four bytes, the lowest first. -/
def lowL (n : Nat) : List UInt8 := [UInt8.ofNat (n % 256), UInt8.ofNat (n / 256 % 256), UInt8.ofNat (n / 65536 % 256), UInt8.ofNat (n / 16777216 % 256)]
theorem le_lowL {n : Nat} (h : n < 4294967296) : le (lowL n) = n := by
  simp only [lowL, le, UInt8.toNat_ofNat']
  omega
theorem lowL_le {t : List UInt8} (h : t.length = 4) : lowL (le t) = t := by
  refine le_inj (by rw [h]; rfl) (le_lowL (le_lt4 t (by omega)))
def sealL (l : List UInt8) : List UInt8 := l ++ lowL (sumL l)
/-- What is sealed: the tail is the sum of what stands ahead of it. -/
def openOk (l : List UInt8) : Bool := decide (4 ≤ l.length) && (lowL (sumL (l.take (l.length - 4))) == l.drop (l.length - 4))
def openA (l : List UInt8) : List UInt8 := if openOk l then l.take (l.length - 4) else []
theorem sealL_length (l : List UInt8) : (sealL l).length = l.length + 4 := by simp [sealL, lowL]
theorem openOk_seal (l : List UInt8) : openOk (sealL l) = true := by
  unfold openOk
  rw [sealL_length, show l.length + 4 - 4 = l.length from by omega]
  unfold sealL
  simp
theorem openA_seal (l : List UInt8) : openA (sealL l) = l := by
  unfold openA
  rw [openOk_seal, if_pos rfl, sealL_length, show l.length + 4 - 4 = l.length from by omega]
  unfold sealL; simp
/-- The whole of a sealed text has ONE state behind it. -/
theorem seal_state (l : List UInt8) (h4 : 4 ≤ l.length) : openOk l = true ↔ crcRun 4294967295 l = crcBits 32 4294967295 := by
  have hl : l = l.take (l.length - 4) ++ l.drop (l.length - 4) := (List.take_append_drop _ _).symm
  have ht : (l.drop (l.length - 4)).length = 4 := by simp; omega
  unfold openOk
  generalize hb : l.take (l.length - 4) = b at *
  generalize htl : l.drop (l.length - 4) = t at *
  have hst : crcRun 4294967295 b < 4294967296 := crcRun_lt b (by omega)
  have hsum : sumL b = crcRun 4294967295 b ^^^ 4294967295 := by unfold sumL moreL; rw [flip_xor (crcRun_lt b (flip_lt 0))]; rfl
  have e1 : crcRun 4294967295 l = crcBits 32 (crcRun 4294967295 b ^^^ le t) := by
    conv => lhs; rw [hl]
    rw [crcRun_append, crcRun_le t, ht]
  rw [e1]
  simp only [h4, decide_true, Bool.true_and, beq_iff_eq]
  constructor
  · intro h
    rw [← h, le_lowL (sumL_lt b), hsum, ← Nat.xor_assoc, Nat.xor_self, Nat.zero_xor]
  · intro h
    have h2 := crcBits_inj 32 (xor_lt hst (le_lt4 t (by omega))) (by omega) h
    have h3 := congrArg (crcRun 4294967295 b ^^^ ·) h2
    simp only [← Nat.xor_assoc, Nat.xor_self, Nat.zero_xor] at h3
    rw [hsum, ← h3]
    exact lowL_le ht
/-- With a window of at most four bytes turned to other ones it is sealed no more. -/
theorem turned_no (p q : List UInt8) {x y : List UInt8} (hl : x.length = y.length) (h4 : x.length ≤ 4) (hne : x ≠ y) (hlen : 4 ≤ (p ++ x ++ q).length) (ho : openOk (p ++ x ++ q) = true) : openOk (p ++ y ++ q) = false := by
  rcases hy : openOk (p ++ y ++ q) with _ | _
  · rfl
  · exfalso
    have h1 := (seal_state _ hlen).1 ho
    have h2 := (seal_state _ (by simp at hlen ⊢; omega)).1 hy
    exact hne (crcRun_differs p q hl h4 (by omega) (h1.trans h2.symm))
/-- Three texts, put against each other byte by byte. -/
def xor3 : List UInt8 → List UInt8 → List UInt8 → List UInt8
  | x :: a, y :: b, z :: c => (x ^^^ y ^^^ z) :: xor3 a b c
  | _, _, _ => []
theorem crcRun_xor3 : ∀ (a b c : List UInt8) (s t u : Nat), a.length = b.length → a.length = c.length → crcRun (s ^^^ t ^^^ u) (xor3 a b c) = crcRun s a ^^^ crcRun t b ^^^ crcRun u c
  | [], [], [], s, t, u, _, _ => rfl
  | x :: a, y :: b, z :: c, s, t, u, h1, h2 => by
    simp only [xor3, crcRun_cons]
    rw [← crcRun_xor3 a b c _ _ _ (by simpa using h1) (by simpa using h2)]
    congr 1
    unfold crcStep
    rw [← crcBits_xor, ← crcBits_xor, UInt8.toNat_xor, UInt8.toNat_xor]
    congr 1
    ac_rfl
theorem length_xor3 : ∀ (a b c : List UInt8), a.length = b.length → a.length = c.length → (xor3 a b c).length = a.length
  | [], [], [], _, _ => rfl
  | x :: a, y :: b, z :: c, h1, h2 => by simp only [xor3, List.length_cons]; rw [length_xor3 a b c (by simpa using h1) (by simpa using h2)]
theorem xor3_snoc : ∀ (a b c : List UInt8) (x y z : UInt8), a.length = b.length → a.length = c.length → xor3 (a ++ [x]) (b ++ [y]) (c ++ [z]) = xor3 a b c ++ [x ^^^ y ^^^ z]
  | [], [], [], _, _, _, _, _ => rfl
  | x :: a, y :: b, z :: c, p, q, r, h1, h2 => by simp only [xor3, List.cons_append]; rw [xor3_snoc a b c p q r (by simpa using h1) (by simpa using h2)]
theorem sumL_xor3 (a b c : List UInt8) (h1 : a.length = b.length) (h2 : a.length = c.length) : sumL (xor3 a b c) = sumL a ^^^ sumL b ^^^ sumL c := by
  have h := crcRun_xor3 a b c 4294967295 4294967295 4294967295 h1 h2
  rw [Nat.xor_self, Nat.zero_xor] at h
  have e : ∀ l, sumL l = crcRun 4294967295 l ^^^ 4294967295 := fun l => by
    unfold sumL moreL; rw [flip_xor (crcRun_lt l (flip_lt 0))]; rfl
  rw [e, e, e, e, h]
  generalize crcRun 4294967295 a = x
  generalize crcRun 4294967295 b = y
  generalize crcRun 4294967295 c = z
  generalize 4294967295 = f
  have e2 : x ^^^ f ^^^ (y ^^^ f) ^^^ (z ^^^ f) = (x ^^^ y ^^^ z ^^^ f) ^^^ (f ^^^ f) := by ac_rfl
  rw [e2, Nat.xor_self, Nat.xor_zero]
/-- Bytes put against the first ones of a text. -/
def zipx : List UInt8 → List UInt8 → List UInt8
  | x :: l, d :: ds => (x ^^^ d) :: zipx l ds
  | l, [] => l
  | [], _ => []
theorem zipx_nil_left (ds : List UInt8) : zipx [] ds = [] := by cases ds <;> rfl
theorem zipx_nil (l : List UInt8) : zipx l [] = l := by cases l <;> rfl
theorem length_zipx : ∀ (l ds : List UInt8), (zipx l ds).length = l.length
  | [], ds => by rw [zipx_nil_left]
  | x :: l, [] => rfl
  | x :: l, d :: ds => by simp only [zipx, List.length_cons]; rw [length_zipx l ds]
theorem zipx_append : ∀ (x q ds : List UInt8), ds.length ≤ x.length → zipx (x ++ q) ds = zipx x ds ++ q
  | [], q, [], _ => by simp [zipx_nil]
  | [], q, d :: ds, h => by simp at h
  | x :: l, q, [], _ => by simp [zipx_nil]
  | x :: l, q, d :: ds, h => by simp only [List.cons_append, zipx]; rw [zipx_append l q ds (by simpa using h)]
theorem zipx_take : ∀ (l ds : List UInt8), zipx l ds = zipx l (ds.take l.length)
  | [], ds => by rw [zipx_nil_left, zipx_nil_left]
  | x :: l, [] => by simp
  | x :: l, d :: ds => by simp only [zipx, List.length_cons, List.take_succ_cons]; rw [← zipx_take l ds]
theorem zipx_snoc : ∀ (l ds : List UInt8) (d : UInt8), (zipx l (ds ++ [d])) = (zipx l ds).set ds.length ((l.getD ds.length 0) ^^^ d)
  | [], ds, d => by rw [zipx_nil_left, zipx_nil_left]; rfl
  | x :: l, [], d => by simp [zipx, zipx_nil]
  | x :: l, e :: ds, d => by simp only [List.cons_append, zipx, List.length_cons, List.set_cons_succ, List.getD_cons_succ]; rw [zipx_snoc l ds d]
theorem zipx_get : ∀ (l ds : List UInt8), (zipx l ds)[ds.length]? = l[ds.length]?
  | [], ds => by rw [zipx_nil_left]
  | x :: l, [] => by rw [zipx_nil]
  | x :: l, e :: ds => by simp only [zipx, List.length_cons, List.getElem?_cons_succ]; exact zipx_get l ds
theorem xor_eq_self {x d : UInt8} (h : x ^^^ d = x) : d = 0 := by
  have h1 := congrArg (x ^^^ ·) h
  simp only [← UInt8.xor_assoc, UInt8.xor_self, UInt8.zero_xor] at h1
  exact h1
theorem zipx_self : ∀ (l ds : List UInt8), ds.length ≤ l.length → zipx l ds = l → ∀ d ∈ ds, d = 0
  | _, [], _, _, d, hd => by simp at hd
  | [], e :: ds, h, _, d, hd => by simp at h
  | x :: l, e :: ds, h, e1, d, hd => by
    simp only [zipx, List.cons.injEq] at e1
    rcases List.mem_cons.1 hd with rfl | hd
    · exact xor_eq_self e1.1
    · exact zipx_self l ds (by simpa using h) e1.2 d hd
/-- A text of which bytes from k on are put against ds. -/
def turnL (l : List UInt8) (k : Nat) (ds : List UInt8) : List UInt8 := l.take k ++ zipx (l.drop k) ds
theorem length_turnL (l : List UInt8) (k : Nat) (ds : List UInt8) : (turnL l k ds).length = l.length := by
  unfold turnL; rw [List.length_append, length_zipx]; simp; omega
theorem turnL_nil (l : List UInt8) (k : Nat) : turnL l k [] = l := by unfold turnL; rw [zipx_nil, List.take_append_drop]
theorem turnL_get (l : List UInt8) (k : Nat) (ds : List UInt8) (h : k + ds.length < l.length) : (turnL l k ds)[k + ds.length]? = l[k + ds.length]? := by
  unfold turnL
  rw [List.getElem?_append_right (by simp; omega), List.length_take, Nat.min_eq_left (by omega), Nat.add_sub_cancel_left, zipx_get, List.getElem?_drop]
theorem turnL_snoc (l : List UInt8) (k : Nat) (ds : List UInt8) (d : UInt8) (h : k + ds.length < l.length) : turnL l k (ds ++ [d]) = (turnL l k ds).set (k + ds.length) (l[k + ds.length] ^^^ d) := by
  unfold turnL
  rw [zipx_snoc, List.set_append_right _ _ (by simp; omega), List.length_take, Nat.min_eq_left (by omega), Nat.add_sub_cancel_left]
  congr 2
  rw [List.getD_eq_getElem?_getD, List.getElem?_drop, List.getElem?_eq_getElem h]; rfl
theorem lowL_zero {n : Nat} (hn : n < 4294967296) (h : ∀ d ∈ lowL n, d = 0) : n = 0 := by
  have e := le_lowL hn
  rw [← e]
  have e2 : lowL n = [0, 0, 0, 0] := by
    have := h
    simp only [lowL, List.mem_cons, List.not_mem_nil, or_false, forall_eq_or_imp, forall_eq] at this
    unfold lowL
    rw [this.1, this.2.1, this.2.2.1, this.2.2.2]
  rw [e2]; rfl
/-- What was sealed is no more, turned over within four bytes anywhere. -/
theorem turned_seal (s : List UInt8) (k n : Nat) (hk : k ≤ s.length) (hn : n < 4294967296) (h0 : n ≠ 0) : openOk (turnL (sealL s) k (lowL n)) = false := by
  have hT := sealL_length s
  generalize hTe : sealL s = T at *
  have ho : openOk T = true := by rw [← hTe]; exact openOk_seal s
  have e1 : T = T.take k ++ (T.drop k).take 4 ++ (T.drop k).drop 4 := by rw [List.append_assoc, List.take_append_drop, List.take_append_drop]
  have hx : ((T.drop k).take 4).length = 4 := by simp; omega
  have e2 : turnL T k (lowL n) = T.take k ++ zipx ((T.drop k).take 4) (lowL n) ++ (T.drop k).drop 4 := by
    unfold turnL
    rw [List.append_assoc, ← zipx_append _ _ _ (by rw [hx]; exact Nat.le_refl _), List.take_append_drop]
  rw [e2]
  refine turned_no (T.take k) ((T.drop k).drop 4) (x := (T.drop k).take 4) (by rw [length_zipx]) (by omega) ?_ (by rw [← e1]; omega) (by rw [← e1]; exact ho)
  intro h
  exact h0 (lowL_zero hn (zipx_self _ _ (by rw [hx]; exact Nat.le_refl _) h.symm))
/-- A text turned over within four bytes is the same, or has another sum. -/
theorem turned_sum (l : List UInt8) (k n : Nat) (h : sumL (turnL l k (lowL n)) = sumL l) : turnL l k (lowL n) = l := by
  have e1 : l = l.take k ++ (l.drop k).take 4 ++ (l.drop k).drop 4 := by rw [List.append_assoc, List.take_append_drop, List.take_append_drop]
  have hx : ((l.drop k).take 4).length ≤ 4 := by simp; omega
  have e2 : turnL l k (lowL n) = l.take k ++ zipx ((l.drop k).take 4) (lowL n) ++ (l.drop k).drop 4 := by
    unfold turnL
    by_cases h4 : 4 ≤ (l.drop k).length
    · rw [List.append_assoc, ← zipx_append _ _ _ (by rw [List.length_take, Nat.min_eq_left h4]; exact Nat.le_refl _), List.take_append_drop]
    · have h5 : (l.drop k).take 4 = l.drop k := List.take_of_length_le (by omega)
      have h6 : (l.drop k).drop 4 = [] := List.drop_eq_nil_of_le (by omega)
      rw [h5, h6, List.append_nil]
  rw [e2] at h ⊢
  conv at h => rhs; rw [e1]
  have h7 := sumL_differs _ _ (x := zipx ((l.drop k).take 4) (lowL n)) (y := (l.drop k).take 4) (length_zipx _ _) (by rw [length_zipx]; exact hx) h
  rw [h7]; exact e1.symm
/-- Past the text's end nothing is turned. -/
theorem turnL_end (l : List UInt8) (k i : Nat) (ds : List UInt8) (h : l.length ≤ k + i) : turnL l k (ds.take i) = turnL l k ds := by
  unfold turnL
  rw [zipx_take _ ds, zipx_take _ (ds.take i), List.take_take]
  congr 2
  rw [Nat.min_eq_left (by simp; omega)]

/-! ### the walk's own forms -/
theorem crcBit_walk (x : Nat) (hx : x < 4294967296) :
    bits BinOp.xor IntKind.u32 ((x : Int) / 2) (bits BinOp.and IntKind.u32 3988292384 (-bits BinOp.and IntKind.u32 (x : Int) 1 % 4294967296)) = ((crcBit x : Nat) : Int) := by
  have e1 : bits BinOp.and IntKind.u32 (x : Int) 1 = ((x % 2 : Nat) : Int) := by
    rw [show (1 : Int) = ((1 : Nat) : Int) from rfl, u32_and_nat x 1 hx (by omega), nat_mask1]
  rw [e1]
  unfold crcBit
  rw [show (x : Int) / 2 = ((x / 2 : Nat) : Int) from by omega]
  rcases Nat.mod_two_eq_zero_or_one x with h | h <;> rw [h]
  · have e2 : bits BinOp.and IntKind.u32 3988292384 (-((0 : Nat) : Int) % 4294967296) = ((0 : Nat) : Int) := by
      rw [show (-((0 : Nat) : Int) % 4294967296) = ((0 : Nat) : Int) from rfl, show (3988292384 : Int) = ((3988292384 : Nat) : Int) from rfl, u32_and_nat _ _ (by omega) (by omega), Nat.and_zero]
    rw [e2, u32_xor_nat _ _ (by omega) (by omega)]; rfl
  · have e2 : bits BinOp.and IntKind.u32 3988292384 (-((1 : Nat) : Int) % 4294967296) = ((3988292384 : Nat) : Int) := by
      rw [show (-((1 : Nat) : Int) % 4294967296) = ((4294967295 : Nat) : Int) from rfl, show (3988292384 : Int) = ((3988292384 : Nat) : Int) from rfl, u32_and_nat _ _ (by omega) (by omega), nat_mask32]
    rw [e2, u32_xor_nat _ _ (by omega) (by omega)]; rfl
theorem flip_walk (n : Nat) (hn : n < 4294967296) : bits BinOp.xor IntKind.u32 IntKind.u32.max (n : Int) = ((flip32 n : Nat) : Int) := by
  rw [show IntKind.u32.max = ((4294967295 : Nat) : Int) from rfl, u32_xor_nat _ _ (by omega) hn, flip_xor hn, Nat.xor_comm]
/-- A round of the reference's step: what is left of the byte stands beside the state. -/
theorem refbit (x y : Nat) : crcBit (x ^^^ y) = (x / 2 ^^^ (if (x + y) % 2 = 1 then 3988292384 else 0)) ^^^ (y / 2) := by
  unfold crcBit
  rw [Nat.xor_div_two, xor_mod_two, show (x % 2 + y % 2) % 2 = (x + y) % 2 from by omega]
  rw [Nat.xor_assoc, Nat.xor_comm (y / 2), ← Nat.xor_assoc]
end Go.Proofs.Ytpoeginnoocenaa
