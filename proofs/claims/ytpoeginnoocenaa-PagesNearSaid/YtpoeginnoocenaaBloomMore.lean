/-
  Each hash that was made is there; with more hashes no bit is off that was set. No program in sight.
-/
import Derived.Test.YtpoeginnoocenaaBloomBits
namespace Go.Proofs.Ytpoeginnoocenaa
open Go.RowKit
set_option linter.unusedVariables false

theorem has_made (l : List Nat) (n : Int) (q h : Nat) (hq : 0 < q) (hf : Nat → Bool) (hon : ∀ b, onB l n (8 * q) b = true → hf b = true) (hh : h ∈ l) : hasL (packL hf q) n h = true := by
  refine hasL_yes (by intro e; have := length_packL hf q; rw [e] at this; simp at this; omega) (fun i hi => ?_)
  rw [length_packL, bitL_packL _ _ _ (prN_lt h i (by omega))]
  apply hon
  unfold onB
  rw [List.any_eq_true]
  refine ⟨h, hh, ?_⟩
  simp only [List.contains_eq_mem, decide_eq_true_eq]
  unfold probesL
  exact List.mem_map.2 ⟨i, List.mem_range.2 hi, rfl⟩
theorem onB_more (l more : List Nat) (n : Int) (B b : Nat) (h : onB l n B b = true) : onB (l ++ more) n B b = true := by
  unfold onB at *
  rw [List.any_append, h, Bool.true_or]
theorem byteN_and : ∀ a0 a1 a2 a3 a4 a5 a6 a7 b0 b1 b2 b3 b4 b5 b6 b7 : Bool,
    (byteN a0 a1 a2 a3 a4 a5 a6 a7 &&& byteN b0 b1 b2 b3 b4 b5 b6 b7) = byteN (a0 && b0) (a1 && b1) (a2 && b2) (a3 && b3) (a4 && b4) (a5 && b5) (a6 && b6) (a7 && b7) := by decide +kernel
theorem byte8_and (f g : Nat → Bool) : (byte8 f &&& byte8 g) = byte8 fun i => f i && g i := byteN_and _ _ _ _ _ _ _ _ _ _ _ _ _ _ _ _
theorem byte8_below (f g : Nat → Bool) (h : ∀ i, f i = true → g i = true) : (byte8 f &&& byte8 g) = byte8 f := by
  rw [byte8_and]
  refine byte8_congr fun i _ => ?_
  rcases hf : f i with _ | _
  · rfl
  · rw [h i hf]; rfl
end Go.Proofs.Ytpoeginnoocenaa
