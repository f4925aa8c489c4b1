/-
  Rows.BatchesBackSaid: what is put is got, what is cut off is not, nor what has something behind it.
-/
import Derived.Test.YtiojapjidgjaoaaBatchesFirst
namespace Go.Proofs.Ytiojapjidgjaoaa
open Go.RowKit
set_option linter.unusedVariables false

set_option maxHeartbeats 2000000 in
theorem BatchesBack_walk (v : Value) (b : Bat) (z : ByteArray) (cut : Int) (w : World) (h : RawB w v b) (hz : z.size ≤ maxLen) (hc : 0 ≤ cut ∧ cut ≤ 65535) :
    Calls Try.prog 11 #[v, .string z, .int .u16 cut] w fun e w' => e = .returned (.bool true) ∧ Below w.heap.size w w' := by
  obtain ⟨c, rfl⟩ := Int.eq_ofNat_of_zero_le hc.1
  have hc' : c ≤ 65535 := by have := hc.2; omega
  clear hc
  unfold maxLen at hz
  obtain ⟨Z, rfl⟩ : ∃ Z, z = bs Z := ⟨lb z, (bs_lb z).symm⟩
  rw [size_bs] at hz
  have hg := great_few (b := b)
  have hno : checkB b ≠ 0 → putB b = [] := fun h => by unfold putB; rw [if_neg h]
  have hlen := putB_len (b := b)
  have hgot := got_put (b := b)
  have hcut := cut_got (b := b)
  have hseen := fun h ho => seen_put (b := b) h ho Z
  have hpos : checkB b = 0 → 0 < b.1.size := fun h => (checkB_parts h).1
  obtain ⟨s, f, l⟩ := b
  obtain ⟨A, k, rfl, -⟩ := id h
  simp only [] at h hg hpos ⊢
  have b0 := lit_below w (.cells #[.string s, .int .i64 f, .slice A l.length k] 47)
  have r0 := Row.new w #[.string s, .int .i64 f, .slice A l.length k] 47
  have h1 := h.next b0
  have gr := rawB_Great _ _ _ h1
  generalize hgr : greatB (s, f, l) = g at gr hg
  rcases g with _ | _
  · obtain ⟨hs1, hl1⟩ := hg rfl
    clear hg hgr
    by_cases hl : Z.length ≤ 100
    · have hl' : ¬ (100 : Int) < Z.length := by omega
      have Hno := Lib.hid hno
      have Hlen := Lib.hid hlen
      have Hgot := Lib.hid hgot
      have Hcut := Lib.hid hcut
      have Hseen := Lib.hid hseen
      have Hpos := Lib.hid hpos
      clear hno hlen hgot hcut hseen hpos
      go_enter Try.func11, Try.ntmps11
      go_wp2_with fail
      refine gr.mono ?_
      rintro e w1 ⟨rfl, hb1⟩
      have r1 := r0.next hb1
      obtain ⟨x0, x1, x2, -, -, -⟩ := row_agg r1
      have ba := rawB_Batch _ _ _ (h1.next hb1) (by simp only []; omega)
      have hb1' := below_chain b0 hb1
      clear gr r0 hb1 b0 h1 h r1
      go_wp2_with fail
      refine ba.mono ?_
      rintro e w2 ⟨v', rfl, hB, hb2⟩
      obtain ⟨A0, c0, rfl, -⟩ := id hB
      have hokB := hB.okB
      simp only [] at hB
      have z2 := lit_below w2 (.cells #[.string s, .int .i64 f, .slice A0 l.length c0] 49)
      have R2 := Row.new w2 #[.string s, .int .i64 f, .slice A0 l.length c0] 49
      obtain ⟨u0, u1, u2, -, -, -⟩ := row_agg R2
      have hB2 := hB.next z2
      have hp := batches_Put _ _ _ hB2
      have hk := fun w hb => batches_Check _ _ w (hB2.next (w' := w) hb)
      have hbw := below_chain hb1' (below_chain hb2 z2)
      clear x0 x1 x2 ba hB hb1' hb2 z2
      by_cases hk0 : checkB (s, f, l) = 0
      · obtain ⟨t1, t2⟩ := Hlen.out hk0
        obtain ⟨t3, t4⟩ := Hgot.out hk0 hokB
        have t5 := Hcut.out hk0 hokB
        have t6 := Hseen.out hk0 hokB
        have hpos := Hpos.out hk0
        have hbV : batV (putB (s, f, l) ++ Z) = if Z = [] then (s, f, l) else (ByteArray.empty, 0, []) := by
          by_cases hZ : Z = []
          · subst hZ; rw [if_pos rfl, List.append_nil]; exact t3
          · rw [if_neg hZ]; unfold batV; rw [t6]; simp [hZ]
        have hbE : batE (putB (s, f, l) ++ Z) = if Z = [] then 0 else 10 := by
          by_cases hZ : Z = []
          · subst hZ; rw [if_pos rfl, List.append_nil]; exact t4
          · rw [if_neg hZ]; unfold batE; rw [t6]; simp [hZ]
        rw [hk0] at hp
        simp only [hk0] at hk
        generalize putB (s, f, l) = T at hp t1 t2 t3 t4 t5 hbV hbE t6
        obtain ⟨j, hj⟩ : ∃ k, k = c % T.length := ⟨_, rfl⟩
        have hj1 : j < T.length := by rw [hj]; exact Nat.mod_lt _ t1
        have hj2 : (c : Int) % (T.length : Int) = (j : Int) := by rw [hj]; rfl
        have t7 := t5 j hj1 (by unfold maxLen; omega)
        have hx2 : (bs T).extract 0 j = bs (T.take j) := by rw [bs_extract, lb_bs, List.drop_zero, Nat.sub_zero]
        have hx3 : bs T ++ bs Z = bs (T ++ Z) := bs_append T Z
        have e0 : ¬ (T.length : Int) = 0 := by omega
        have e0' : ((T.length : Int) == 0) = false := by rw [beq_eq_false_iff_ne]; exact e0
        have e2 : ¬ (2000 : Int) < (T.length : Int) := by omega
        have hlZ : (T ++ Z).length ≤ 3000 := by rw [List.length_append]; omega
        have q1 := fun w => ex_GetB (bs T) s f l l.length 0 w (by rw [size_bs]; omega) (by rw [lb_bs]; exact t4) (by rw [lb_bs]; exact t3) rfl
        have q2 := fun w => ex_GetB (bs (T.take j)) ByteArray.empty 0 [] 0 10 w (by rw [size_bs, List.length_take]; omega) (by rw [lb_bs]; unfold batE; rw [t7]; rfl) (by rw [lb_bs]; unfold batV; rw [t7]; rfl) rfl
        obtain ⟨s3, f3, l3, hq3⟩ : ∃ s3 f3 l3, ((s3, f3, l3) : Bat) = if Z = [] then (s, f, l) else (ByteArray.empty, 0, []) := ⟨_, _, _, rfl⟩
        obtain ⟨o3, ho3⟩ : ∃ o3 : Int, o3 = if Z = [] then 0 else 10 := ⟨_, rfl⟩
        rw [← hq3] at hbV
        rw [← ho3] at hbE
        have q3 := fun w => ex_GetB (bs (T ++ Z)) s3 f3 l3 l3.length o3 w (by rw [size_bs]; omega) (by rw [lb_bs]; exact hbE) (by rw [lb_bs]; exact hbV) rfl
        have hsame : decide (((s3, f3, l3) : Bat) = (s, f, l)) = (Z == []) := by
          rw [hq3]
          by_cases hZ : Z = []
          · rw [if_pos hZ, hZ]; simp
          · rw [if_neg hZ, decide_eq_false]
            · simp [hZ]
            · intro h
              have := congrArg (fun b : Bat => b.1.size) h
              simp at this
              have h0 : (ByteArray.empty).size = 0 := rfl
              omega
        have ho : (o3 == 0) = (Z == []) := by
          rw [ho3]
          by_cases hZ : Z = []
          · rw [if_pos hZ, hZ]; rfl
          · rw [if_neg hZ]; simp [hZ]
        have Hsame := Lib.hid hsame
        clear hsame hq3 ho3 hbV hbE t1 t2 t3 t4 t5 t6 t7 hpos hj Hno Hlen Hgot Hcut Hseen Hpos hokB hlZ
        go_wp2_with fail
        refine hp.mono ?_
        rintro e w3 ⟨rfl, hb3⟩
        have R3 := R2.next hb3
        clear u0 u1 u2 hp R2
        obtain ⟨u0, u1, u2, -, -, -⟩ := row_agg R3
        go_wp2_with fail
        refine (hk _ hb3).mono ?_
        rintro e w4 ⟨rfl, hb4⟩
        have R4 := R3.next hb4
        have hB4 := hB2.next (below_chain hb3 hb4)
        have hbw4 := below_chain hbw (below_chain hb3 hb4)
        clear u0 u1 u2 R3 hk hB2 hbw hb3 hb4
        go_wp2_with fail
        refine (q1 _).mono ?_
        rintro e w5 ⟨A1, c1, rfl, hv1, hb5⟩
        have z5 := lit_below w5 (.cells #[.string s, .int .i64 f, .slice A1 l.length c1] 49)
        have R5 := Row.new w5 #[.string s, .int .i64 f, .slice A1 l.length c1] 49
        clear q1
        go_wp2_with fail
        try rw [hx2]
        refine (q2 _).mono ?_
        rintro e w6 ⟨A2, c2, rfl, hv2, hb6⟩
        have z6 := lit_below w6 (.cells #[.string ByteArray.empty, .int .i64 0, .slice A2 0 c2] 49)
        have R6 := Row.new w6 #[.string ByteArray.empty, .int .i64 0, .slice A2 0 c2] 49
        clear q2 hx2
        go_wp2_with fail
        try rw [hx3]
        refine (q3 _).mono ?_
        rintro e w7 ⟨A3, c3, rfl, hv3, hb7⟩
        have z7 := lit_below w7 (.cells #[.string s3, .int .i64 f3, .slice A3 l3.length c3] 49)
        have R7 := Row.new w7 #[.string s3, .int .i64 f3, .slice A3 l3.length c3] 49
        clear q3 hx3
        have h67 := below_chain hb7 z7
        have h57 := below_chain hb6 (below_chain z6 h67)
        have h47 := below_chain hb5 (below_chain z5 h57)
        have R4' := R4.next h47
        have R5' := R5.next h57
        have R6' := R6.next h67
        have hB7 := hB4.next h47
        have hv1' := hv1.next (below_chain z5 h57)
        have hv2' := hv2.next (below_chain z6 h67)
        have hv3' := hv3.next z7
        have hbw7 := below_chain hbw4 h47
        obtain ⟨a0, a1, a2, -, -, -⟩ := row_agg R4'
        obtain ⟨b0, b1, b2, -, -, -⟩ := row_agg R5'
        clear R4 R5 R6 hB4 hv1 hv2 hv3 hbw4 h47 h57 h67 hb5 hb6 hb7 z5 z6 z7
        go_wp2_with fail
        refine (ex_SameB _ _ (s, f, l) (s, f, l) true _ hv1' hB7 (by simp)).mono ?_
        rintro e w8 ⟨rfl, hb8⟩
        obtain ⟨d0, d1, d2, -, -, -⟩ := row_agg (R6'.next hb8)
        go_wp2_with fail
        refine (ex_SameB _ _ (ByteArray.empty, 0, []) (ByteArray.empty, 0, []) true _ (hv2'.next hb8) (batV_none _) (by decide +kernel)).mono ?_
        rintro e w9 ⟨rfl, hb9⟩
        have h89 := below_chain hb8 hb9
        obtain ⟨g0, g1, g2, -, -, -⟩ := row_agg (R7.next h89)
        obtain ⟨m0, m1, m2, -, -, -⟩ := row_agg (R5'.next h89)
        have hsx := ex_SameB _ _ _ _ _ _ (hv3'.next h89) (hv1'.next h89) Hsame.out
        clear R4' R5' R6' R7 a0 a1 a2 b0 b1 b2 d0 d1 d2 hB7 hv1' hv2' hv3' Hsame
        rcases hZ : (Z == ([] : List UInt8)) with _ | _
        · rw [hZ] at hsx ho
          go_wp2_with fail
          refine hsx.mono ?_
          rintro e w10 ⟨rfl, hb10⟩
          go_wp2_with fail
          refine (law_batched _).mono ?_
          rintro e w11 ⟨rfl, hb11⟩
          go_wp2
          go_ret
          exact ⟨rfl, below_chain hbw7 (below_chain h89 (below_chain hb10 hb11))⟩
        · rw [hZ] at hsx ho
          go_wp2_with fail
          refine hsx.mono ?_
          rintro e w10 ⟨rfl, hb10⟩
          go_wp2_with fail
          refine (law_batched _).mono ?_
          rintro e w11 ⟨rfl, hb11⟩
          go_wp2
          go_ret
          exact ⟨rfl, below_chain hbw7 (below_chain h89 (below_chain hb10 hb11))⟩
      · have hpn := Hno.out hk0
        rw [hpn] at hp
        have hk0' : (checkB (s, f, l) == 0) = false := by rw [beq_eq_false_iff_ne]; exact hk0
        generalize checkB (s, f, l) = ck at hp hk hk0 hk0'
        have e1 : (ck == ck) = true := by simp
        clear Hno Hlen Hgot Hcut Hseen Hpos hpn
        go_wp2_with fail
        refine hp.mono ?_
        rintro e w3 ⟨rfl, hb3⟩
        have R3 := R2.next hb3
        clear u0 u1 u2 hp R2
        obtain ⟨u0, u1, u2, -, -, -⟩ := row_agg R3
        go_wp2_with fail
        refine (hk _ hb3).mono ?_
        rintro e w4 ⟨rfl, hb4⟩
        go_wp2_with fail
        refine (law_batched _).mono ?_
        rintro e w5 ⟨rfl, hb5⟩
        go_wp2
        go_ret
        exact ⟨rfl, below_chain hbw (below_chain hb3 (below_chain hb4 hb5))⟩
    · have hl' : (100 : Int) < Z.length := by omega
      clear hno hlen hgot hcut hseen hpos r0 h1 h
      go_enter Try.func11, Try.ntmps11
      go_wp2_with fail
      refine gr.mono ?_
      rintro e w1 ⟨rfl, hb1⟩
      go_wp2_with fail
      refine (law_batched _).mono ?_
      rintro e w2 ⟨rfl, hb2⟩
      go_wp2
      go_ret
      exact ⟨rfl, below_chain b0 (below_chain hb1 hb2)⟩
  · clear hg hgr r0 h1 h hno hlen hgot hcut hseen hpos
    go_enter Try.func11, Try.ntmps11
    go_wp2_with fail
    refine gr.mono ?_
    rintro e w1 ⟨rfl, hb1⟩
    go_wp2_with fail
    refine (law_batched _).mono ?_
    rintro e w2 ⟨rfl, hb2⟩
    go_wp2
    go_ret
    exact ⟨rfl, below_chain b0 (below_chain hb1 hb2)⟩
end Go.Proofs.Ytiojapjidgjaoaa
