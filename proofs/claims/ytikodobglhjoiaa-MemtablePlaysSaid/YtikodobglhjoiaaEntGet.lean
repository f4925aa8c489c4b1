/-
  The reference's Get of an entry: it looks at the first byte of each number.
-/
import Derived.Test.YtikodobglhjoiaaEntPut
namespace Go.Proofs.Ytikodobglhjoiaa
open Go.RowKit
set_option linter.unusedVariables false

theorem num_cons (c : UInt8) (l : List UInt8) : num (c :: l) = c.toNat * 256 ^ l.length + num l := by
  have h : ∀ (l : List UInt8) (a : Nat), l.foldl (fun n c => n * 256 + c.toNat) a = a * 256 ^ l.length + num l := by
    intro l
    induction l with
    | nil => intro a; simp [num]
    | cons d l ih =>
      intro a
      have h1 := ih (a * 256 + d.toNat)
      have h2 := ih d.toNat
      simp only [List.foldl_cons, List.length_cons]
      unfold num at h2 ⊢
      simp only [List.foldl_cons, Nat.zero_mul, Nat.zero_add]
      rw [h1, h2]
      unfold num
      rw [Nat.pow_succ, Nat.add_mul, Nat.mul_assoc, Nat.mul_comm 256 (256 ^ l.length)]
      omega
  have := h l c.toNat
  unfold num at this ⊢
  simpa using this
theorem num8_low (l : List UInt8) (h : l.length = 8) : (num l < 9223372036854775808) ↔ l[0].toNat < 128 := by
  match l, h with
  | c :: t, h =>
    have ht : t.length = 7 := by simpa using h
    have h1 := num_lt t
    rw [num_cons, ht]
    rw [ht] at h1
    simp only [List.getElem_cons_zero]
    omega
theorem v_low (s : ByteArray) (h : s.size = 24) : vE (lb s) < 9223372036854775808 ↔ s[8].toNat < 128 := by
  unfold vE
  rw [num8_low _ (by simp; omega)]
  simp [lb]; rfl
theorem p_low (s : ByteArray) (h : s.size = 24) : pE (lb s) < 9223372036854775808 ↔ s[16].toNat < 128 := by
  unfold pE
  rw [num8_low _ (by simp; omega)]
  simp [lb]; rfl

set_option maxHeartbeats 400000 in
theorem ref_entGet (s : ByteArray) (w : World) (hs : s.size ≤ maxLen) :
    Calls Try.prog 29 #[.string s] w fun e w' => e = .returned (.tuple #[.agg (entC (getE (lb s))), .bool (okG (lb s))]) ∧ Below w.heap.size w w' := by
  have hz := (Below.refl w.heap.size w).alloc (Nat.le_refl _) (.cells #[.int .u64 0, .int .i64 0, .int .i64 0] 25)
  by_cases h24 : s.size = 24
  · have hv := vE_lt (lb s)
    have hp := pE_lt (lb s) (by rw [length_lb]; exact h24)
    have eH := cutH s
    have eV := cutV s
    have eP := cutP s h24
    have lv := v_low s h24
    have lp := p_low s h24
    unfold getE okG
    rw [length_lb]
    generalize vE (lb s) = v at *
    generalize pE (lb s) = p at *
    generalize hE (lb s) = h at *
    have eb : (s.size = 24 ∧ v < 9223372036854775808 ∧ p < 9223372036854775808) ↔ (v < 9223372036854775808 ∧ p < 9223372036854775808) := by simp [h24]
    simp only [eb]
    by_cases h1 : v < 9223372036854775808
    · have h8 := lv.1 h1
      have g8 : ((127 : Int) < (s[8].toNat : Int)) = False := by simp; omega
      by_cases h2 : p < 9223372036854775808
      · have h16 := lp.1 h2
        have g16 : ((127 : Int) < (s[16].toNat : Int)) = False := by simp; omega
        have hyes : decide (v < 9223372036854775808 ∧ p < 9223372036854775808) = true := by simp [h1, h2]
        rw [hyes, if_pos rfl]
        go_enter Try.func29, Try.ntmps29
        go_wp2_with fail
        have wv : IntKind.i64.wrap (v : Int) = v := by rw [IntKind.wrap_i64]; omega
        have wp : IntKind.i64.wrap (p : Int) = p := by rw [IntKind.wrap_i64]; omega
        apply wp_meet
        · go_region_held3 (fun _ => True) (trivial) ((go_at_call 56; refine (ref_Get _ _ (by rw [bs_extract]; simp [maxLen]; omega)).mono ?_; rintro e w' ⟨rfl, rfl⟩))
          all_goals exact ⟨rfl, rfl, rfl⟩
        · try simp only [wv, wp]
          go_wp2
          refine bodyPost_ret (v := .tuple #[.agg #[.int .u64 h, .int .i64 v, .int .i64 p], .bool true]) (by simp [results, Try.results29, go_sem]) rfl ⟨ret_ab rfl rfl, ((Below.refl _ _).alloc (Nat.le_refl _) _).drew⟩
      · have h16 : ¬ s[16].toNat < 128 := fun h => h2 (lp.2 h)
        have g16 : ((127 : Int) < (s[16].toNat : Int)) = True := by simp; omega
        have hno : decide (v < 9223372036854775808 ∧ p < 9223372036854775808) = false := by simp [h2]
        rw [hno]
        go_enter Try.func29, Try.ntmps29
        go_wp2
        refine bodyPost_ret (v := .tuple #[.agg #[.int .u64 0, .int .i64 0, .int .i64 0], .bool false]) (by simp [results, Try.results29, go_sem]) rfl ⟨ret_ab rfl rfl, hz⟩
    · have h8 : ¬ s[8].toNat < 128 := fun h => h1 (lv.2 h)
      have g8 : ((127 : Int) < (s[8].toNat : Int)) = True := by simp; omega
      have hno : decide (v < 9223372036854775808 ∧ p < 9223372036854775808) = false := by simp [h1]
      rw [hno]
      go_enter Try.func29, Try.ntmps29
      go_wp2
      refine bodyPost_ret (v := .tuple #[.agg #[.int .u64 0, .int .i64 0, .int .i64 0], .bool false]) (by simp [results, Try.results29, go_sem]) rfl ⟨ret_ab rfl rfl, hz⟩
  · have h' : ¬ (s.size : Int) = 24 := by omega
    have hno : okG (lb s) = false := by unfold okG; rw [length_lb]; simp [h24]
    unfold getE
    rw [hno]
    go_enter Try.func29, Try.ntmps29
    go_wp2
    refine bodyPost_ret (v := .tuple #[.agg #[.int .u64 0, .int .i64 0, .int .i64 0], .bool false]) (by simp [results, Try.results29, go_sem]) rfl ⟨ret_ab rfl rfl, hz⟩
end Go.Proofs.Ytikodobglhjoiaa
