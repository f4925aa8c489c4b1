/-
  Four bytes, side by side, turned over: one round's arithmetic. No program in sight.
-/
import Derived.Test.YtikodobglhjoiaaMem
import Derived.Test.YtikodobglhjoiaaCrc
namespace Go.Proofs.Ytikodobglhjoiaa
open Go.RowKit
set_option linter.unusedVariables false

theorem lowL_at (n i : Nat) (hi : i < 4) : lowL n = (lowL n).take i ++ UInt8.ofNat (n / 2 ^ (8 * i) % 256) :: (lowL n).drop (i + 1) := by
  match i, hi with
  | 0, _ => simp [lowL]
  | 1, _ => simp [lowL]
  | 2, _ => simp [lowL]
  | 3, _ => simp [lowL]
theorem lowL_take_succ (n i : Nat) (hi : i < 4) : (lowL n).take (i + 1) = (lowL n).take i ++ [UInt8.ofNat (n / 2 ^ (8 * i) % 256)] := by
  match i, hi with
  | 0, _ => simp [lowL]
  | 1, _ => simp [lowL]
  | 2, _ => simp [lowL]
  | 3, _ => simp [lowL]
theorem turn_round (T : List UInt8) (k i n : Nat) (hi : i < 4) (h : k + i < T.length) :
    (cellsB (turnL T k ((lowL n).take i))).set (k + i) (.int .u8 (bits BinOp.xor IntKind.u8 (T[k + i].toNat : Int) ((n : Int) / 2 ^ (8 * i) % 256))) = cellsB (turnL T k ((lowL n).take (i + 1))) := by
  have hl : ((lowL n).take i).length = i := by simp [lowL]; omega
  have hx := T[k + i].toNat_lt
  have e2 : ((n : Int) / 2 ^ (8 * i) % 256) = ((n / 2 ^ (8 * i) % 256 : Nat) : Int) := by simp
  have hm : n / 2 ^ (8 * i) % 256 < 256 := Nat.mod_lt _ (by omega)
  have e3 : (UInt8.ofNat (n / 2 ^ (8 * i) % 256)).toNat = n / 2 ^ (8 * i) % 256 := by simp
  have h2 := turnL_snoc T k ((lowL n).take i) (UInt8.ofNat (n / 2 ^ (8 * i) % 256)) (by omega)
  simp only [hl] at h2
  rw [lowL_take_succ n i hi, h2, e2, u8_xor_nat _ _ hx hm]
  have e4 : (T[k + i] ^^^ UInt8.ofNat (n / 2 ^ (8 * i) % 256)).toNat = T[k + i].toNat ^^^ (n / 2 ^ (8 * i) % 256) := by rw [UInt8.toNat_xor, e3]
  rw [cellsB_set _ _ _ (by omega) (by have := Nat.xor_lt_two_pow (n := 8) hx hm; omega)]
  congr 2
  apply UInt8.toNat_inj.1
  rw [e4]
  have := Nat.xor_lt_two_pow (n := 8) hx hm
  simp
theorem turn_cell (T : List UInt8) (k i n : Nat) (hi : i < 4) (h : k + i < T.length) : (turnL T k ((lowL n).take i))[k + i]? = some T[k + i] := by
  have hl : ((lowL n).take i).length = i := by simp [lowL]; omega
  have h2 := turnL_get T k ((lowL n).take i) (by omega)
  simp only [hl] at h2
  rw [h2, List.getElem?_eq_getElem h]

end Go.Proofs.Ytikodobglhjoiaa
