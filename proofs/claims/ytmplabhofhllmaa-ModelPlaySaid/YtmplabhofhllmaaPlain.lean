/-
  PLAIN LEMMAS: bytes as lists, numbers as bytes. No program in sight.
-/
import Derived.WalkKit
import Derived.Laws.BitsAllLaws
import Derived.Laws.IdiomStrings
import Derived.Laws.Concat
import Derived.Lib.Hide
namespace Go.Proofs.Ytmplabhofhllmaa
open Go.RowKit

/-- A list of bytes as a string's bytes. -/
def bs (l : List UInt8) : ByteArray := ⟨l.toArray⟩
def lb (s : ByteArray) : List UInt8 := s.data.toList
theorem lb_bs (l : List UInt8) : lb (bs l) = l := by simp [lb, bs]
theorem bs_lb (s : ByteArray) : bs (lb s) = s := by simp [lb, bs]
@[simp, go_sem] theorem size_bs (l : List UInt8) : (bs l).size = l.length := by simp [bs, ByteArray.size]
@[simp, go_sem] theorem length_lb (s : ByteArray) : (lb s).length = s.size := Array.length_toList
theorem lb_get (s : ByteArray) (k : Nat) (h : k < s.size) : (lb s)[k]? = some s[k] := by
  rw [List.getElem?_eq_getElem (by rw [length_lb]; exact h)]; rfl

/-- The number of bytes, the highest first. -/
def num (l : List UInt8) : Nat := l.foldl (fun n c => n * 256 + c.toNat) 0
theorem num_snoc (l : List UInt8) (c : UInt8) : num (l ++ [c]) = num l * 256 + c.toNat := by simp [num, List.foldl_append]
theorem num_lt (l : List UInt8) : num l < 256 ^ l.length := by
  have h : ∀ k (l : List UInt8), l.length = k → num l < 256 ^ k := by
    intro k
    induction k with
    | zero => intro l hl; simp at hl; subst hl; simp [num]
    | succ k ih =>
      intro l hl
      have hne : l ≠ [] := by intro h; subst h; simp at hl
      obtain ⟨i, c, rfl⟩ : ∃ i c, l = i ++ [c] := ⟨l.dropLast, l.getLast hne, (List.dropLast_concat_getLast hne).symm⟩
      simp at hl
      have := ih i hl
      have hc := c.toNat_lt
      rw [num_snoc, Nat.pow_succ]
      omega
  exact h _ l rfl
/-- The bytes of a number, the highest first. -/
def be : Nat → Nat → List UInt8
  | 0, _ => []
  | k + 1, n => be k (n / 256) ++ [UInt8.ofNat (n % 256)]
@[simp, go_sem] theorem be_length (k n : Nat) : (be k n).length = k := by
  induction k generalizing n with
  | zero => rfl
  | succ k ih => simp [be, ih]
theorem num_be (k n : Nat) : num (be k n) = n % 256 ^ k := by
  induction k generalizing n with
  | zero => simp [be, num, Nat.mod_one]
  | succ k ih =>
    rw [be, num_snoc, ih, Nat.pow_succ, Nat.mul_comm (256 ^ k) 256, Nat.mod_mul]
    have : (UInt8.ofNat (n % 256)).toNat = n % 256 := by simp
    omega
theorem be_num (l : List UInt8) : be l.length (num l) = l := by
  have h : ∀ k (l : List UInt8), l.length = k → be k (num l) = l := by
    intro k
    induction k with
    | zero => intro l hl; simp at hl; subst hl; rfl
    | succ k ih =>
      intro l hl
      have hne : l ≠ [] := by intro h; subst h; simp at hl
      obtain ⟨i, c, rfl⟩ : ∃ i c, l = i ++ [c] := ⟨l.dropLast, l.getLast hne, (List.dropLast_concat_getLast hne).symm⟩
      simp at hl
      have := ih i hl
      have hc := c.toNat_lt
      rw [num_snoc, be, show (num i * 256 + c.toNat) / 256 = num i from by omega, show (num i * 256 + c.toNat) % 256 = c.toNat from by omega, this]
      simp
  exact h _ l rfl

/-- 'Get': the number of at most eight bytes. -/
def getN (l : List UInt8) : Nat := num (l.take 8)
theorem getN_lt (l : List UInt8) : getN l < 18446744073709551616 := by
  have h := num_lt (l.take 8)
  have : (256 : Nat) ^ (l.take 8).length ≤ 256 ^ 8 := Nat.pow_le_pow_right (by omega) (by simp; omega)
  unfold getN
  omega
/-- 'Put': the lowest bytes of a number. -/
def putL (n : Nat) (size : Int) : List UInt8 := if size < 1 ∨ 8 < size then [] else be size.toNat n


/-! ### the walk's own forms -/
theorem ret_int {k : IntKind} {a b : Int} (h : a = b) : Ending.returned (.int k a) = .returned (.int k b) := by rw [h]
theorem ret_str {a b : ByteArray} (h : a = b) : Ending.returned (.string a) = .returned (.string b) := by rw [h]
theorem ret_bool {a b : Bool} (h : a = b) : Ending.returned (.bool a) = .returned (.bool b) := by rw [h]
theorem ret_ssb {a a' b b' : ByteArray} {o o' : Bool} (h1 : a = a') (h2 : b = b') (h3 : o = o') : Ending.returned (.tuple #[.string a, .string b, .bool o]) = .returned (.tuple #[.string a', .string b', .bool o']) := by rw [h1, h2, h3]
theorem take_lb_succ (s : ByteArray) (k : Nat) (h : k < s.size) : (lb s).take (k + 1) = (lb s).take k ++ [s[k]] := by
  rw [List.take_add_one, lb_get s k h]; rfl
theorem num_take_lt (s : ByteArray) (k : Nat) : num ((lb s).take k) < 256 ^ k := by
  refine Nat.lt_of_lt_of_le (num_lt _) (Nat.pow_le_pow_right (by omega) ?_)
  simp; omega
/-- A round of 'Get'. -/
theorem get_round (s : ByteArray) (k : Nat) (h : k < s.size) (h8 : k < 8) :
    bits BinOp.or IntKind.u64 (IntKind.u64.wrap ((num ((lb s).take k) : Int) * 256)) (IntKind.u64.wrap (s[k].toNat : Int)) = ((num ((lb s).take (k + 1)) : Nat) : Int) := by
  have hn := num_take_lt s k
  have hp : (256 : Nat) ^ k ≤ 256 ^ 7 := Nat.pow_le_pow_right (by omega) (by omega)
  have hc := s[k].toNat_lt
  rw [take_lb_succ s k h, num_snoc, IntKind.wrap_u64, IntKind.wrap_u64]
  generalize num ((lb s).take k) = n at *
  generalize s[k].toNat = c at *
  rw [show (n : Int) * 256 % 18446744073709551616 = ((n * 256 : Nat) : Int) from by omega, show (c : Int) % 18446744073709551616 = (c : Int) from by omega, u64_or_nat _ _ (by omega) (by omega), nat_join 8 _ _ (by omega) (by omega)]

theorem be_cons (k n : Nat) : be (k + 1) n = UInt8.ofNat (n / 256 ^ k % 256) :: be k n := by
  induction k generalizing n with
  | zero => simp [be]
  | succ k ih =>
    rw [be, ih, be]
    simp only [List.cons_append, List.cons.injEq, and_true]
    rw [Nat.div_div_eq_div_mul, Nat.mul_comm, Nat.pow_succ]
/-- The cells of bytes. -/
def cellsB (l : List UInt8) : List Value := l.map (fun b => .int .u8 (b.toNat : Int))
@[simp, go_sem] theorem length_cellsB (l : List UInt8) : (cellsB l).length = l.length := by simp [cellsB]
theorem cellsB_get (l : List UInt8) (k : Nat) (h : k < l.length) : (cellsB l)[k]? = some (.int .u8 (l[k].toNat : Int)) := by
  simp [cellsB, List.getElem?_eq_getElem h]
def zeroB (m : Nat) : List Value := List.replicate m (.int .u8 0)
theorem put_round (c k : Nat) (n : Int) (hn : 0 ≤ n) (hk : k < c) :
    (zeroB (c - k) ++ cellsB (be k n.toNat)).set (c - 1 - k) (.int .u8 (n / 2 ^ (8 * k) % 256)) = zeroB (c - (k + 1)) ++ cellsB (be (k + 1) n.toNat) := by
  have e1 : c - k = (c - 1 - k) + 1 := by omega
  have e2 : c - (k + 1) = c - 1 - k := by omega
  obtain ⟨m, rfl⟩ := Int.eq_ofNat_of_zero_le hn
  have e3 : ((m : Int) / 2 ^ (8 * k) % 256) = ((UInt8.ofNat (m / 256 ^ k % 256)).toNat : Int) := by
    have h256 : (2 : Nat) ^ (8 * k) = 256 ^ k := by rw [Nat.pow_mul]
    have : (UInt8.ofNat (m / 256 ^ k % 256)).toNat = m / 256 ^ k % 256 := by simp
    rw [this, ← h256]
    simp
  rw [e2, e1, be_cons, e3]
  unfold zeroB cellsB
  rw [List.replicate_succ']
  simp
theorem made_bytes (c : Nat) : (madeCells (Value.int IntKind.u8 0).cells (c * 1)).toList = zeroB c := by
  have h : ∀ x, ([Value.int IntKind.u8 0][x % 1]?).getD default = Value.int IntKind.u8 0 := fun x => by rw [Nat.mod_one]; rfl
  simp only [madeCells, Value.cells, zeroB]
  apply List.ext_getElem?
  intro i
  by_cases hi : i < c
  · simp [hi, h]
  · simp [hi]
/-- 'string(b)', b a row of the call's own. -/
theorem conv_own {P : Program} {w : World} {base g n cap : Nat} {e src dst : TypeId} {l : List UInt8} (h : w.ownsRow base e 1 (.slice (some ⟨g, 0, none⟩) n cap) n (cellsB l))
    (hs : P.underlying src = some (.slice e)) (he : P.underlying e = some (.int .u8)) (hd : P.underlying dst = some .string) :
    (convert src dst (.slice (some ⟨g, 0, none⟩) n cap)).run P w = .ok (.string (bs l)) w := by
  have hl : l.length = n := by have := h.1; rw [length_cellsB] at this; omega
  subst hl
  exact run_convert_bytes_back w src dst e ⟨g, 0, none⟩ cap l hs he hd (fun j hj => by
    have := h.cellAt j (by omega)
    rw [cellsB_get l j hj] at this
    have e : (Addr.mk g 0 none).add j = ⟨g, j, none⟩ := by
      unfold Addr.add
      by_cases hz : j = 0
      · subst hz; rfl
      · simp [hz]
    rw [e]; exact this)
theorem putL_length (n : Nat) (size : Int) (h1 : 1 ≤ size) (h8 : size ≤ 8) : (putL n size).length = size.toNat := by
  unfold putL; rw [if_neg (by omega), be_length]
/-- 'Text': a text with its length ahead. -/
def textL (l : List UInt8) : List UInt8 := if 65535 < l.length then [] else be 2 l.length ++ l
/-- 'Read'. -/
def readOk (l : List UInt8) : Bool := decide (2 ≤ l.length ∧ num (l.take 2) ≤ l.length - 2)
def readA (l : List UInt8) : List UInt8 := if readOk l then (l.drop 2).take (num (l.take 2)) else []
def readB (l : List UInt8) : List UInt8 := if readOk l then l.drop (2 + num (l.take 2)) else []
theorem bs_append (a b : List UInt8) : bs a ++ bs b = bs (a ++ b) := ByteArray.mk_append_mk a b
theorem bs_extract (s : ByteArray) (i j : Nat) : s.extract i j = bs (((lb s).drop i).take (j - i)) := by
  apply ByteArray.ext
  apply Array.toList_inj.1
  simp [bs, lb, ByteArray.data_extract]
theorem Below.next {B : Nat} {a b c : World} (h1 : Below B a b) (hB : B ≤ a.heap.size) (h2 : Below b.heap.size b c) : Below B a c :=
  h1.trans (h2.mono (Nat.le_trans hB h1.size))
theorem bs_append_r (a : List UInt8) (s : ByteArray) : bs a ++ s = bs (a ++ lb s) := by
  conv => lhs; rw [← bs_lb s]
  exact bs_append a (lb s)
/-- Numbers from 0 to 255 as bytes. -/
def bytesOf (xs : List Int) : List UInt8 := xs.map (fun x => UInt8.ofNat x.toNat)
theorem cellsB_bytesOf (xs : List Int) (h : ∀ x ∈ xs, 0 ≤ x ∧ x < 256) : cellsB (bytesOf xs) = xs.map (Value.int .u8) := by
  unfold cellsB bytesOf
  rw [List.map_map]
  apply List.map_congr_left
  intro x hx
  have := h x hx
  have e : (UInt8.ofNat x.toNat).toNat = x.toNat := by simp; omega
  simp only [Function.comp_apply, e]
  congr 1; omega
/-- 'string([]byte{..})'. -/
theorem conv_lit {P : Program} (w : World) {e src dst : TypeId} (xs : List Int) (n : Nat) (C : Array Value) (hC : C = (xs.map (Value.int .u8)).toArray) (hn : xs.length = n) (h : ∀ x ∈ xs, 0 ≤ x ∧ x < 256)
    (hm : n ≤ maxLen) (hs : P.underlying src = some (.slice e)) (he : P.underlying e = some (.int .u8)) (hd : P.underlying dst = some .string) :
    (convert src dst (.slice (some ⟨w.heap.size, 0, none⟩) n n)).run P (w.alloc (.cells C e)) = .ok (.string (bs (bytesOf xs))) (w.alloc (.cells C e)) := by
  subst hC
  have hown := World.ownsRow_lit (e := e) (size := 1) w (xs.map (Value.int .u8)).toArray n (Nat.le_refl _) hm (by simp; omega)
  refine conv_own (base := w.heap.size) (l := bytesOf xs) ?_ hs he hd
  rw [cellsB_bytesOf xs h]
  simpa using hown
theorem conv_lit1 {P : Program} {e src dst : TypeId} (x : Int) (h0 : 0 ≤ x) (h1 : x < 256) (hs : P.underlying src = some (.slice e)) (he : P.underlying e = some (.int .u8)) (hd : P.underlying dst = some .string) (w : World) :
    (convert src dst (.slice (some ⟨w.heap.size, 0, none⟩) 1 1)).run P (w.alloc (.cells #[.int .u8 x] e)) = .ok (.string (bs [UInt8.ofNat x.toNat])) (w.alloc (.cells #[.int .u8 x] e)) :=
  conv_lit w [x] 1 _ rfl rfl (by simp; omega) (by unfold maxLen; omega) hs he hd
theorem conv_lit2 {P : Program} {e src dst : TypeId} (x y : Int) (h0 : 0 ≤ x) (h1 : x < 256) (h2 : 0 ≤ y) (h3 : y < 256) (hs : P.underlying src = some (.slice e)) (he : P.underlying e = some (.int .u8)) (hd : P.underlying dst = some .string) (w : World) :
    (convert src dst (.slice (some ⟨w.heap.size, 0, none⟩) 2 2)).run P (w.alloc (.cells #[.int .u8 x, .int .u8 y] e)) = .ok (.string (bs [UInt8.ofNat x.toNat, UInt8.ofNat y.toNat])) (w.alloc (.cells #[.int .u8 x, .int .u8 y] e)) :=
  conv_lit w [x, y] 2 _ rfl rfl (by simp; omega) (by unfold maxLen; omega) hs he hd
theorem conv_lit4 {P : Program} {e src dst : TypeId} (x y z u : Int) (h0 : 0 ≤ x ∧ x < 256) (h1 : 0 ≤ y ∧ y < 256) (h2 : 0 ≤ z ∧ z < 256) (h3 : 0 ≤ u ∧ u < 256) (hs : P.underlying src = some (.slice e)) (he : P.underlying e = some (.int .u8)) (hd : P.underlying dst = some .string) (w : World) :
    (convert src dst (.slice (some ⟨w.heap.size, 0, none⟩) 4 4)).run P (w.alloc (.cells #[.int .u8 x, .int .u8 y, .int .u8 z, .int .u8 u] e)) = .ok (.string (bs [UInt8.ofNat x.toNat, UInt8.ofNat y.toNat, UInt8.ofNat z.toNat, UInt8.ofNat u.toNat])) (w.alloc (.cells #[.int .u8 x, .int .u8 y, .int .u8 z, .int .u8 u] e)) :=
  conv_lit w [x, y, z, u] 4 _ rfl rfl (by simp; omega) (by unfold maxLen; omega) hs he hd
theorem refget_round (s : ByteArray) (k : Nat) (h : k < s.size) (h8 : k < 8) :
    IntKind.u64.wrap (IntKind.u64.wrap ((num ((lb s).take k) : Int) * 256) + IntKind.u64.wrap (s[k].toNat : Int)) = ((num ((lb s).take (k + 1)) : Nat) : Int) := by
  have hn := num_take_lt s k
  have hp : (256 : Nat) ^ k ≤ 256 ^ 7 := Nat.pow_le_pow_right (by omega) (by omega)
  have hc := s[k].toNat_lt
  rw [take_lb_succ s k h, num_snoc, IntKind.wrap_u64, IntKind.wrap_u64, IntKind.wrap_u64]
  omega
theorem getN_take (s : ByteArray) (k : Nat) (h : k = 8 ∨ (k = s.size ∧ s.size ≤ 8)) : num ((lb s).take k) = getN (lb s) := by
  unfold getN
  rcases h with rfl | ⟨rfl, h⟩
  · rfl
  · rw [List.take_of_length_le (by rw [length_lb]; omega), List.take_of_length_le (by rw [length_lb]; omega)]
theorem be_two (n : Nat) (h : n < 65536) : be 2 n = [UInt8.ofNat (n / 256), UInt8.ofNat (n % 256)] := by
  simp only [be, List.nil_append, List.cons_append]
  rw [show n / 256 % 256 = n / 256 from by omega]
theorem num_two (s : ByteArray) (h : 1 < s.size) : num ((lb s).take 2) = s[0].toNat * 256 + s[1].toNat := by
  rw [take_lb_succ s 1 h, num_snoc, take_lb_succ s 0 (by omega), num_snoc]
  simp [num]
theorem refread_num (s : ByteArray) (h : 1 < s.size) :
    wrap64 (wrap64 (wrap64 (s[0].toNat : Int) * 256) + wrap64 (s[1].toNat : Int)) = ((num ((lb s).take 2) : Nat) : Int) := by
  rw [num_two s h]
  have h0 := s[0].toNat_lt
  have h1 := s[1].toNat_lt
  simp only [wrap64]
  omega
theorem readA_eq (s : ByteArray) (h : ¬ s.size < 2) : readA (lb s) = if s.size - 2 < num ((lb s).take 2) then [] else ((lb s).drop 2).take (num ((lb s).take 2)) := by
  unfold readA readOk; rw [length_lb]
  by_cases hc : s.size - 2 < num ((lb s).take 2)
  · rw [if_pos hc, if_neg (by simp; omega)]
  · rw [if_neg hc, if_pos (by simp; omega)]
theorem readB_eq (s : ByteArray) (h : ¬ s.size < 2) : readB (lb s) = if s.size - 2 < num ((lb s).take 2) then [] else (lb s).drop (2 + num ((lb s).take 2)) := by
  unfold readB readOk; rw [length_lb]
  by_cases hc : s.size - 2 < num ((lb s).take 2)
  · rw [if_pos hc, if_neg (by simp; omega)]
  · rw [if_neg hc, if_pos (by simp; omega)]
theorem readO_eq (s : ByteArray) (h : ¬ s.size < 2) : readOk (lb s) = !decide (s.size - 2 < num ((lb s).take 2)) := by
  unfold readOk; rw [length_lb]
  by_cases hc : s.size - 2 < num ((lb s).take 2) <;> simp [hc] <;> omega
@[simp, go_sem] theorem toList_bs (l : List UInt8) : (bs l).toList = l := ByteArray.toList_mk l
theorem toList_lb (s : ByteArray) : s.toList = lb s := ByteArray.toList_eq s
theorem below_chain {a b c : World} (h1 : Below a.heap.size a b) (h2 : Below b.heap.size b c) : Below a.heap.size a c := Below.next h1 (Nat.le_refl _) h2
theorem below_more {B : Nat} {a b c : World} (h1 : Below B a b) (h2 : Below b.heap.size b c) (hB : B ≤ a.heap.size) : Below B a c := Below.next h1 hB h2
end Go.Proofs.Ytmplabhofhllmaa
