/-
  A record of which some bits within four bytes are turned over, its first four left as they were, stands there no more. No program in sight.
-/
import Derived.Test.YtjcdkekmploelaaRecRow
namespace Go.Proofs.Ytjcdkekmploelaa
open Go.RowKit
set_option linter.unusedVariables false

theorem turnL_append (A B : List UInt8) (k : Nat) (ds : List UInt8) (h : k + ds.length ≤ A.length) : turnL (A ++ B) k ds = turnL A k ds ++ B := by
  unfold turnL
  rw [List.take_append_of_le_length (by omega), List.drop_append_of_le_length (by omega), zipx_append _ _ _ (by simp; omega), List.append_assoc]
theorem turnL_take (l : List UInt8) (k m : Nat) (ds : List UInt8) (h : m ≤ k) : (turnL l k ds).take m = l.take m := by
  unfold turnL
  rw [List.take_append, List.take_take, Nat.min_eq_left h, List.length_take]
  by_cases hk : k ≤ l.length
  · rw [Nat.min_eq_left hk, Nat.sub_eq_zero_of_le h, List.take_zero, List.append_nil]
  · rw [List.drop_of_length_le (by omega)]
    have : ∀ ds, zipx ([] : List UInt8) ds = [] := by intro ds; cases ds <;> rfl
    rw [this]; simp
theorem turned_rec (p : List UInt8) (k b : Nat) (h4 : 4 ≤ k) (hk : k + 4 ≤ p.length + 12) (hp : p.length ≤ 2000) (hb : b < 4294967296) (h0 : b ≠ 0) :
    gOk (turnL (recL p) k (lowL b)) 0 = false := by
  have hlow : (lowL b).length = 4 := rfl
  have hrl := length_recL p
  have hl : (turnL (recL p) k (lowL b)).length = p.length + 12 := by rw [length_turnL, hrl]
  have hnum : numAt (turnL (recL p) k (lowL b)) 0 = p.length := by
    have h1 := (recAt_recL [] p [] hp).1
    simp only [List.nil_append, List.append_nil, List.length_nil] at h1
    unfold numAt at h1 ⊢
    rw [List.drop_zero] at h1 ⊢
    rw [turnL_take _ _ _ _ h4]; exact h1
  rcases hg : gOk (turnL (recL p) k (lowL b)) 0 with _ | _
  · rfl
  · exfalso
    have hr : recAt (turnL (recL p) k (lowL b)) 0 = true := by
      unfold gOk at hg
      simpa using hg
    have hq : turnL (recL p) k (lowL b) = recL (((turnL (recL p) k (lowL b)).drop 4).take p.length) := by
      unfold recAt at hr
      rw [hnum] at hr
      simp only [Bool.and_eq_true, beq_iff_eq, List.drop_zero, Nat.zero_add] at hr
      have := hr.2.2.2
      rw [List.take_of_length_le (by omega)] at this
      exact this
    by_cases hkn : p.length + 4 ≤ k
    · have hbody : ((turnL (recL p) k (lowL b)).drop 4).take p.length = p := by
        have e : ((turnL (recL p) k (lowL b)).drop 4).take p.length = ((turnL (recL p) k (lowL b)).take (p.length + 4)).drop 4 := by rw [List.drop_take]; congr 1
        have e2 : ((recL p).take (p.length + 4)).drop 4 = p := by
          have h1 := (recAt_recL [] p [] hp).2.2
          simp only [List.nil_append, List.append_nil, List.length_nil, Nat.zero_add] at h1
          rw [List.drop_take]; exact h1
        rw [e, turnL_take _ _ _ _ hkn, e2]
      rw [hbody] at hq
      have hz : zipx ((recL p).drop k) (lowL b) = (recL p).drop k := by
        unfold turnL at hq
        conv at hq => rhs; rw [← List.take_append_drop k (recL p)]
        exact List.append_cancel_left hq
      exact h0 (lowL_zero hb (zipx_self _ _ (by simp [hlow]; omega) hz))
    · obtain ⟨q, hqe⟩ : ∃ q, q = ((turnL (recL p) k (lowL b)).drop 4).take p.length := ⟨_, rfl⟩
      have hql : q.length = p.length := by rw [hqe]; simp [hl]
      rw [← hqe] at hq
      have hsl : (sealL (be 4 p.length ++ p)).length = p.length + 8 := by rw [sealL_length]; simp; omega
      have hsq : (sealL (be 4 q.length ++ q)).length = p.length + 8 := by rw [sealL_length]; simp; omega
      have ht : turnL (recL p) k (lowL b) = turnL (sealL (be 4 p.length ++ p)) k (lowL b) ++ be 4 p.length := by
        unfold recL; exact turnL_append _ _ _ _ (by rw [hlow, hsl]; omega)
      rw [ht] at hq
      have h1 : turnL (sealL (be 4 p.length ++ p)) k (lowL b) = sealL (be 4 q.length ++ q) := by
        refine (List.append_inj hq ?_).1
        rw [length_turnL, hsl, hsq]
      have h2 := turned_seal (be 4 p.length ++ p) k b (by simp; omega) hb h0
      rw [h1, openOk_seal] at h2
      cases h2
end Go.Proofs.Ytjcdkekmploelaa
