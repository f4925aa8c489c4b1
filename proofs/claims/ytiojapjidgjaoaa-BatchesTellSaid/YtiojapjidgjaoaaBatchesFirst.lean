/-
  Rows.BatchesFirstSaid: which first versions may be.
-/
import Derived.Test.YtiojapjidgjaoaaOpenBat
import Derived.Test.YtiojapjidgjaoaaBatched
namespace Go.Proofs.Ytiojapjidgjaoaa
open Go.RowKit
set_option linter.unusedVariables false

theorem RawB.with {w : World} {s : ByteArray} {f f' : Int} {A : Option Addr} {n c : Nat} {l : List Ev} (h : RawB w (.agg #[.string s, .int .i64 f, .slice A n c]) (s, f, l)) (hf : -9223372036854775808 ≤ f' ∧ f' ≤ 9223372036854775807) : RawB w (.agg #[.string s, .int .i64 f', .slice A n c]) (s, f', l) := by
  obtain ⟨A', c', h1, h2, h3, -⟩ := h
  simp only [Value.agg.injEq] at h1
  have h4 := congrArg (fun a : Array Value => a[2]?) h1
  have h5 : Value.slice A n c = .slice A' l.length c' := by simpa using h4
  rw [h5]
  exact ⟨A', c', rfl, h2, h3, hf⟩
theorem great_few {b : Bat} (h : greatB b = false) : b.1.size ≤ 1000 ∧ b.2.2.length ≤ 12 := by
  unfold greatB at h
  simp at h
  omega
/-- Which first versions may be, where 0 may be. -/
theorem check_first {s : ByteArray} {l : List Ev} (f : Int) (h : checkB (s, 0, l) = 0) : checkB (s, f, l) = if 0 ≤ f ∧ f ≤ 1073741824 - (l.length : Int) then 0 else 2 := by
  obtain ⟨c1, c2, c3, c4, c5, c6, c7⟩ := checkB_parts h
  unfold checkB
  simp only [] at *
  rw [if_neg (by omega), if_neg (by omega), badL_all c7]
  by_cases hf : 0 ≤ f ∧ f ≤ 1073741824 - (l.length : Int)
  · rw [if_pos hf, if_neg (by omega)]
  · rw [if_neg hf, if_pos (by omega)]

set_option maxHeartbeats 2000000 in
theorem BatchesFirst_walk (v : Value) (b : Bat) (f : Int) (w : World) (h : RawB w v b) (hf : -9223372036854775808 ≤ f ∧ f ≤ 9223372036854775807) :
    Calls Try.prog 13 #[v, .int .i64 f] w fun e w' => e = .returned (.bool true) ∧ Below w.heap.size w w' := by
  obtain ⟨s, f0, l⟩ := b
  obtain ⟨A, c, rfl, -⟩ := id h
  have hg := great_few (b := (s, f0, l))
  simp only [] at h hg ⊢
  have b0 := lit_below w (.cells #[.string s, .int .i64 f0, .slice A l.length c] 47)
  have r0 := Row.new w #[.string s, .int .i64 f0, .slice A l.length c] 47
  have h1 := h.next b0
  have gr := rawB_Great _ _ _ h1
  generalize hgr : greatB (s, f0, l) = g at gr hg
  rcases g with _ | _
  · obtain ⟨hs1, hl1⟩ := hg rfl
    clear hg hgr
    go_enter Try.func13, Try.ntmps13
    go_wp2_with fail
    refine gr.mono ?_
    rintro e w1 ⟨rfl, hb1⟩
    have r1 := r0.next hb1
    have r2 := r1.set 1 (.int .i64 0)
    obtain ⟨x0, x1, x2, q0, q1, q2⟩ := row_agg r1
    obtain ⟨y0, y1, y2, -, -, -⟩ := row_agg r2
    have hb2 := (below_chain b0 hb1).setCell (p := ⟨w.heap.size, 1, none⟩) (Nat.le_refl _) (.int .i64 0)
    have hR := (h.with (f' := 0) (by omega)).next hb2
    have ba := rawB_Batch _ _ _ hR (by simp only []; omega)
    clear gr r0 r1 hb1 b0 h1 h
    go_wp2_with fail
    refine ba.mono ?_
    rintro e w2 ⟨v', rfl, hB, hb3⟩
    obtain ⟨A2, c2, rfl, -⟩ := id hB
    simp only [] at hB
    have z2 := lit_below w2 (.cells #[.string s, .int .i64 0, .slice A2 l.length c2] 49)
    have R2 := Row.new w2 #[.string s, .int .i64 0, .slice A2 l.length c2] 49
    obtain ⟨u0, u1, u2, -, -, -⟩ := row_agg R2
    have ck := batches_Check _ _ _ (hB.next z2)
    have hfirst := check_first (s := s) (l := l) f
    have hF := Lib.hid hfirst
    have HB := Lib.hid hB
    have hb4 := below_more hb2 hb3 (Nat.le_refl _) 
    have hsz := hb4.size
    clear x0 x1 x2 q0 q1 q2 y0 y1 y2 ba r2 hb2 hR hb3 hfirst hB
    generalize hck : checkB (s, 0, l) = k at ck
    have Hck := Lib.hid hck
    clear hck
    by_cases hk : k = 0
    · subst hk
      have hF' := hF.out Hck.out
      go_wp2_with fail
      refine ck.mono ?_
      rintro e w3 ⟨rfl, hb5⟩
      have R3 := R2.next hb5
      have R4 := R3.set 1 (.int .i64 f)
      obtain ⟨t0, t1, t2, q0, q1, q2⟩ := row_agg R3
      obtain ⟨y0, y1, y2, -, -, -⟩ := row_agg R4
      have hb6 := (below_chain z2 hb5).setCell (p := ⟨w2.heap.size, 1, none⟩) (Nat.le_refl _) (.int .i64 f)
      have hB6 := (HB.out.with (f' := f) hf).next hb6
      have ck2 := fun w hb => batches_Check _ _ w (hB6.next (w' := w) hb)
      rw [hF'] at ck2
      have hbw := below_more hb4 hb6 (Nat.le_refl _)
      have HbW := Lib.hid hbw
      clear R2 R3 hF HB ck hb6 hb4 hb5 z2 hF' u0 u1 u2 hbw hB6
      have i0 : IntKind.i64.wrap (1073741824 - (l.length : Int)) = 1073741824 - (l.length : Int) := by rw [IntKind.wrap_i64]; omega
      by_cases hin : 0 ≤ f ∧ f ≤ 1073741824 - (l.length : Int)
      · rw [if_pos hin] at ck2
        obtain ⟨f, rfl⟩ := Int.eq_ofNat_of_zero_le hin.1
        have i1 : (0 : Int) ≤ (f : Int) := hin.1
        have i2 : (f : Int) ≤ 1073741824 - (l.length : Int) := hin.2
        go_wp2_with fail
        refine (ck2 _ (Below.refl _ _)).mono ?_
        rintro e w4 ⟨rfl, hb7⟩
        go_wp2_with fail
        refine (law_batched _).mono ?_
        rintro e w5 ⟨rfl, hb8⟩
        go_wp2
        go_ret
        exact ⟨rfl, below_chain HbW.out (below_chain hb7 hb8)⟩
      · rw [if_neg hin] at ck2
        have hdec : (decide (0 ≤ f) && decide (f ≤ 1073741824 - (l.length : Int))) = false := by
          rcases Decidable.not_and_iff_or_not.1 hin with h | h
          · rw [decide_eq_false h]; rfl
          · rw [decide_eq_false h, Bool.and_false]
        by_cases h0 : 0 ≤ f
        · have h2 : decide (f ≤ 1073741824 - (l.length : Int)) = false := decide_eq_false fun h => hin ⟨h0, h⟩
          go_wp2_with fail
          refine (ck2 _ (Below.refl _ _)).mono ?_
          rintro e w4 ⟨rfl, hb7⟩
          obtain ⟨y0', y1', y2', -, -, -⟩ := row_agg (R4.next hb7)
          clear y0 y1 y2
          go_wp2_with fail
          refine (ck2 _ hb7).mono ?_
          rintro e w5 ⟨rfl, hb8⟩
          go_wp2_with fail
          refine (law_batched _).mono ?_
          rintro e w6 ⟨rfl, hb9⟩
          go_wp2
          go_ret
          exact ⟨rfl, below_chain HbW.out (below_chain hb7 (below_chain hb8 hb9))⟩
        · go_wp2_with fail
          refine (ck2 _ (Below.refl _ _)).mono ?_
          rintro e w4 ⟨rfl, hb7⟩
          obtain ⟨y0', y1', y2', -, -, -⟩ := row_agg (R4.next hb7)
          clear y0 y1 y2
          go_wp2_with fail
          refine (ck2 _ hb7).mono ?_
          rintro e w5 ⟨rfl, hb8⟩
          go_wp2_with fail
          refine (law_batched _).mono ?_
          rintro e w6 ⟨rfl, hb9⟩
          go_wp2
          go_ret
          exact ⟨rfl, below_chain HbW.out (below_chain hb7 (below_chain hb8 hb9))⟩
    · have hk' : (k == 0) = false := by rw [beq_eq_false_iff_ne]; exact hk
      go_wp2_with fail
      refine ck.mono ?_
      rintro e w3 ⟨rfl, hb5⟩
      go_wp2_with fail
      refine (law_batched _).mono ?_
      rintro e w4 ⟨rfl, hb6⟩
      go_wp2
      go_ret
      exact ⟨rfl, below_chain hb4 (below_chain z2 (below_chain hb5 hb6))⟩
  · clear hg hgr r0 h1 h
    go_enter Try.func13, Try.ntmps13
    go_wp2_with fail
    refine gr.mono ?_
    rintro e w1 ⟨rfl, hb1⟩
    go_wp2_with fail
    refine (law_batched _).mono ?_
    rintro e w2 ⟨rfl, hb2⟩
    go_wp2
    go_ret
    exact ⟨rfl, below_chain b0 (below_chain hb1 hb2)⟩
end Go.Proofs.Ytiojapjidgjaoaa
