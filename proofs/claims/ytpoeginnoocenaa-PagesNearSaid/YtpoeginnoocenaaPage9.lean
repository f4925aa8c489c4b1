/-
  PAGES: a file of which each piece has bits within four bytes alone that are turned over. No program in sight.
-/
import Derived.Test.YtpoeginnoocenaaPage8
namespace Go.Proofs.Ytpoeginnoocenaa
open Go.RowKit
set_option linter.unusedVariables false

def nearJ (x : Nat) : Nat := x / 256 % 61
def nearD (x : Nat) : List UInt8 := [UInt8.ofNat (x % 256), UInt8.ofNat (x / 128 % 256), UInt8.ofNat (x / 16384 % 256), UInt8.ofNat (x / 2097152 % 256)]
def nearN (a : List Nat) (S : List UInt8) : Nat → List UInt8
  | 0 => S
  | n + 1 => turnL (nearN a S n) (64 * n + nearJ (a.getD n 0)) (nearD (a.getD n 0))
theorem length_nearN (a : List Nat) (S : List UInt8) (n : Nat) : (nearN a S n).length = S.length := by
  induction n with
  | zero => rfl
  | succ n ih => rw [nearN, length_turnL, ih]
theorem turnL_mid {A M Z : List UInt8} {n j : Nat} {ds : List UInt8} (hA : A.length = n) (hM : M.length = 64) (hj : j ≤ 60) (hd : ds.length = 4) : turnL (A ++ (M ++ Z)) (n + j) ds = A ++ (turnL M j ds ++ Z) := by
  subst hA
  unfold turnL
  have e1 : (A ++ (M ++ Z)).take (A.length + j) = A ++ M.take j := by
    rw [List.take_length_add_append, List.take_append_of_le_length (by omega)]
  have e2 : (A ++ (M ++ Z)).drop (A.length + j) = M.drop j ++ Z := by
    rw [List.drop_length_add_append, List.drop_append_of_le_length (by omega)]
  rw [e1, e2, zipx_append _ _ _ (by rw [List.length_drop]; omega)]
  simp only [List.append_assoc]
theorem drop_piece (S : List UInt8) (n : Nat) : S.drop (64 * n) = pgN S n ++ S.drop (64 * (n + 1)) := by
  unfold pgN
  have h := (List.take_append_drop 64 (S.drop (64 * n))).symm
  rw [List.drop_drop] at h
  rw [show 64 * (n + 1) = 64 * n + 64 by omega]
  exact h
theorem near_flat (f : Nat → List UInt8) (hf : ∀ n, (f n).length = 64) (a : List Nat) (K : Nat) : ∀ n, n ≤ K →
    nearN a ((List.range K).flatMap f) n = ((List.range n).flatMap fun k => turnL (f k) (nearJ (a.getD k 0)) (nearD (a.getD k 0))) ++ ((List.range K).flatMap f).drop (64 * n) := by
  intro n
  induction n with
  | zero => intro _; simp [nearN]
  | succ n ih =>
    intro hn
    have hg : ∀ k, (turnL (f k) (nearJ (a.getD k 0)) (nearD (a.getD k 0))).length = 64 := fun k => by rw [length_turnL, hf]
    rw [nearN, ih (by omega), drop_piece, pgN_flat f hf K n (by omega), turnL_mid (flat_len _ hg n) (hf n) (by unfold nearJ; omega) rfl, flat_succ, List.append_assoc]
theorem near_all (f : Nat → List UInt8) (hf : ∀ n, (f n).length = 64) (a : List Nat) (K k : Nat) (hk : k < K) :
    pgN (nearN a ((List.range K).flatMap f) K) k = turnL (f k) (nearJ (a.getD k 0)) (nearD (a.getD k 0)) := by
  have hg : ∀ k, (turnL (f k) (nearJ (a.getD k 0)) (nearD (a.getD k 0))).length = 64 := fun k => by rw [length_turnL, hf]
  rw [near_flat f hf a K K (Nat.le_refl _), pgN_append (by rw [flat_len _ hg]; omega), pgN_flat _ hg K k hk]
theorem zipx_zero : ∀ (n : Nat) (l : List UInt8), zipx l (List.replicate n 0) = l := by
  intro n
  induction n with
  | zero => intro l; exact zipx_nil l
  | succ n ih =>
    intro l
    match l with
    | [] => exact zipx_nil_left _
    | x :: l => rw [List.replicate_succ, zipx, ih]; simp
/-- A sealed piece, turned over within four bytes, is as it was, or is sealed no more. -/
theorem turned_kept (raw : List UInt8) (j : Nat) (ds : List UInt8) (hj : j ≤ raw.length) (hd : ds.length = 4) (ho : openOk (turnL (sealL raw) j ds) = true) : turnL (sealL raw) j ds = sealL raw := by
  have h1 := lowL_le hd
  have h2 := le_lt4 ds (by omega)
  rcases Nat.eq_zero_or_pos (le ds) with h0 | h0
  · rw [h0] at h1
    rw [← h1]
    unfold turnL
    rw [show lowL 0 = List.replicate 4 0 from rfl, zipx_zero, List.take_append_drop]
  · have := turned_seal raw j (le ds) hj h2 (by omega)
    rw [h1, ho] at this
    cases this
theorem near_may {L : List UInt8} {m P h : Nat} (a : List Nat) (hL : L.length = 60 * m) (hm : 1 ≤ m ∧ m ≤ 2000) (hP : 1 ≤ P ∧ P ≤ 16) (hh : hasL L (P : Int) h = true) :
    mayF (nearN a (fileP L (P : Int)) (m + 1)) h = true := by
  have hS := fileP_len hL hm hP
  refine may_kept hL hm hP (fun k hlen ho => ?_) hh
  rw [length_nearN, hS] at hlen
  refine ⟨by omega, ?_⟩
  rw [pgN_file hL hm hP (by omega)]
  rw [fileP_flat hL hm hP, near_all _ (pieceP_len P hL) a (m + 1) k (by omega)] at ho ⊢
  have hj : nearJ (a.getD k 0) ≤ 60 := by unfold nearJ; omega
  rcases k with _ | k
  · rw [pieceP_zero] at ho ⊢
    unfold headP at ho ⊢
    exact turned_kept _ _ _ (by rw [headRaw_len]; omega) rfl ho
  · rw [pieceP_succ (by omega)] at ho ⊢
    exact turned_kept _ _ _ (by rw [pageRaw_60 hL (by omega)]; omega) rfl ho
/-- One step: a byte more is turned. -/
theorem turn_step (l : List UInt8) (k : Nat) (ds : List UInt8) (d : UInt8) (h : k + ds.length < l.length) :
    (turnL l k ds).set (k + ds.length) ((turnL l k ds).getD (k + ds.length) 0 ^^^ d) = turnL l k (ds ++ [d]) := by
  rw [turnL_snoc _ _ _ _ h, List.getD_eq_getElem?_getD, turnL_get _ _ _ h, List.getElem?_eq_getElem h]; rfl
theorem near_step (a : List Nat) (S : List UInt8) (n i j : Nat) (x : Nat) (hx : a.getD n 0 = x) (hi : i < 4) (hlen : 64 * n + 64 ≤ S.length) :
    (turnL (nearN a S n) (64 * n + nearJ x) ((nearD x).take i)).set (64 * n + nearJ x + i) ((turnL (nearN a S n) (64 * n + nearJ x) ((nearD x).take i)).getD (64 * n + nearJ x + i) 0 ^^^ UInt8.ofNat (x / 2 ^ (7 * i) % 256))
      = turnL (nearN a S n) (64 * n + nearJ x) ((nearD x).take (i + 1)) := by
  have hj : nearJ x ≤ 60 := by unfold nearJ; omega
  have hl : ((nearD x).take i).length = i := by rw [List.length_take, show (nearD x).length = 4 from rfl]; omega
  have h := turn_step (nearN a S n) (64 * n + nearJ x) ((nearD x).take i) (UInt8.ofNat (x / 2 ^ (7 * i) % 256)) (by rw [length_nearN, hl]; omega)
  rw [hl] at h
  rw [h]
  congr 1
  rcases (by omega : i = 0 ∨ i = 1 ∨ i = 2 ∨ i = 3) with rfl | rfl | rfl | rfl
  · simp [nearD]
  · simp [nearD]
  · simp [nearD]
  · simp [nearD]
theorem near_done (a : List Nat) (S : List UInt8) (n : Nat) : turnL (nearN a S n) (64 * n + nearJ (a.getD n 0)) ((nearD (a.getD n 0)).take 4) = nearN a S (n + 1) := rfl
end Go.Proofs.Ytpoeginnoocenaa
