/-
  Rows.ModelPlaySaid: whatever is done with a model, each answer, and all events, are the document's.
-/
import Derived.Test.YtmplabhofhllmaaPlayU
import Derived.Test.YtmplabhofhllmaaOpenActM
import Derived.Test.YtmplabhofhllmaaModPlain
import Derived.Deep.RegionHeldLaw
import Derived.Deep.CutRange
import Derived.Deep.CutBlock
import Derived.Deep.RegionHeld3
namespace Go.Proofs.Ytmplabhofhllmaa
open Go.RowKit
set_option linter.unusedVariables false

set_option maxRecDepth 100000 in
set_option maxHeartbeats 16000000 in
theorem ModelPlay_walk (v : Value) (X : List ActP) (w : World) (hX : ActsV w v X) :
    Calls Try.prog 3 #[v] w fun e w' => e = .returned (.bool true) ∧ Below w.heap.size w w' := by
  have hgr := law_Great v X 100 w hX (by omega)
  obtain ⟨A, c, rfl, -⟩ := id hX.1
  obtain ⟨B, hB⟩ : ∃ B, B = w.heap.size := ⟨_, rfl⟩
  have hrM := Row.new w #[.bool true, .slice none 0 0, .int .i64 0] 56
  have hbM := lit2_below' w (.cells #[.bool true, .slice none 0 0, .int .i64 0] 56) (.cells #[.slice none 0 0, .slice none 0 0, .int .i64 0] 31)
  have hrO := Row.new (w.alloc (.cells #[.bool true, .slice none 0 0, .int .i64 0] 56)) #[.slice none 0 0, .slice none 0 0, .int .i64 0] 31
  have hrM2 := hrM.next (lit_below (w.alloc (.cells #[.bool true, .slice none 0 0, .int .i64 0] 56)) (.cells #[.slice none 0 0, .slice none 0 0, .int .i64 0] 31))
  rw [show (w.alloc (.cells #[.bool true, .slice none 0 0, .int .i64 0] 56)).heap.size = w.heap.size + 1 from Array.size_push _] at hrO
  have hP0 : Pair w ((w.alloc (.cells #[.bool true, .slice none 0 0, .int .i64 0] 56)).alloc (.cells #[.slice none 0 0, .slice none 0 0, .int .i64 0] 31)) w.heap.size (.slice none 0 0) (.slice none 0 0) (.slice none 0 0) [] 0 :=
    ⟨⟨hrM2, Nat.le_refl _, .inl (World.ownsRow_nil _ _ _ _), fun p hp => by cases hp⟩, ⟨hrO, by omega, .inl (World.ownsRow_nil _ _ _ _), .inl (World.ownsRow_nil _ _ _ _), fun t ht => by cases ht⟩, Rowed.nil, hbM⟩
  rw [← hB] at hP0
  have HB := Lib.hid hB
  have HP0 := Lib.hid hP0
  have HXX := Lib.hid hX
  have HGR := Lib.hid hgr
  clear hrM hbM hrO hrM2 hP0 hX hgr
  go_enter Try.func3, Try.ntmps3
  go_wp2_with fail
  refine HGR.out.mono ?_
  rintro e w' ⟨rfl, bb, rfl, hsm⟩
  cases bb with
  | true =>
    clear hsm
    go_wp2_with fail
    refine (law_modelled _).mono ?_
    rintro e w1 ⟨rfl, hb1⟩
    go_wp2
    go_ret
    exact ⟨rfl, hb1⟩
  | false =>
    obtain ⟨hX100, hsm⟩ := hsm rfl
    have HSM := Lib.hid hsm
    clear hsm
    go_wp2_with fail
    refine (model_New _).mono ?_
    rintro e w1 ⟨rfl, rfl⟩
    rw [← hB]
    go_wp2_with fail
    rw [show w.heap.size = B from hB.symm]
    clear hB
    obtain ⟨n, hn⟩ : ∃ n, n = X.length := ⟨_, rfl⟩
    have HN := Lib.hid hn
    rw [show X.length = n from hn.symm]
    rw [← hn] at hX100
    clear hn
    go_loopw [5] (fun i wr => ∃ (k : Nat) (L : List BatP) (v vL vM : Value) (sure : Nat), k ≤ n ∧ i = .int .i64 (k : Int) ∧ Pair w wr B v vL vM L sure ∧ L.length ≤ k) (fun i _ => n - (intOf i).toNat)
    case atStart => exact ⟨0, [], _, _, _, 0, by omega, rfl, HP0.out, by simp⟩
    case round =>
      obtain ⟨k, L, vm, vL, vM, sure, hk, rfl, hP, hLk⟩ := hrel
      have HP := Lib.hid hP
      have HLK := Lib.hid hLk
      have HBw := Lib.hid hP.size
      clear hP hLk
      by_cases hlt : k < n
      · have i1 : (k : Int) < n := by omega
        have hL100 : L.length ≤ 100 := by have := HLK.out; omega
        obtain ⟨p, hp⟩ : ∃ p, X[k]? = some p := ⟨_, List.getElem?_eq_getElem (by have := HN.out; omega)⟩
        have hXw := HXX.out.next (show Below w.heap.size w wr by rw [← HB.out]; exact HP.out.below)
        obtain ⟨b, off, rfl, hb9, hcell⟩ := hXw.later (by have := HN.out; omega)
        obtain ⟨c0, c1, c2, c3, c4⟩ := hcell k p hp wr (Below.refl _ _)
        have hok := hXw.2 p (List.mem_of_getElem? hp)
        have hsmall := HSM.out p (List.mem_of_getElem? hp)
        have HEin := Lib.hid (HXX.out.2 p (List.mem_of_getElem? hp))
        obtain ⟨pv, ⟨pk, ps, pa, pb, pl⟩⟩ := p
        dsimp only at c0 c1 c2 c3 c4
        obtain ⟨hE, hk256, hs, ha, hb⟩ := hok
        dsimp only at hE hk256 hs ha hb
        obtain ⟨Ae, ce, rfl, -⟩ := id hE.1
        have hzA : Below wr.heap.size wr (wr.alloc (.cells #[.int .u8 (pk : Int), .string ps, .int .i64 pa, .int .i64 pb, .slice Ae pl.length ce] 34)) := lit_below wr _
        have hrA := Row.new wr #[.int .u8 (pk : Int), .string ps, .int .i64 pa, .int .i64 pb, .slice Ae pl.length ce] 34
        have HB0 := Lib.hid (show B ≤ w.heap.size by rw [HB.out]; exact Nat.le_refl _)
        have hP1 := HP.out.next hzA HB0.out
        have HRB := Lib.hid (show B + 1 < wr.heap.size from HP.out.r.1.lt)
        have HPA := Lib.hid hP1
        have HRA := Lib.hid hrA
        have HS := Lib.hid hs
        have HAB := Lib.hid (And.intro ha hb)
        have HSML := Lib.hid hsmall
        clear hcell hp hXw hE hs ha hb hsmall hzA hrA hP1 hb9
        have d0 := HRA.out.cell 0 (by simp)
        simp only [List.getElem_cons_zero] at d0
        have hk255 : pk ≤ 255 := by omega
        clear hk256
        go_upto_block 2 with (fail)
        go_cut [7, 8, 9, 10, 11, 12, 13, 14, 15, 16, 17, 18, 19, 20, 21, 22, 23, 24, 25] from 34 to 261 (fun _ _ _ _ _ _ _ _ _ _ _ _ _ _ _ _ _ _ _ wx => ∃ (L' : List BatP) (v' vL' vM' : Value) (s' : Nat), Pair w wx B v' vL' vM' L' s' ∧ L'.length ≤ k + 1)
        case first =>
          rcases (show pk % 10 = 5 ∨ pk % 10 = 6 ∨ pk % 10 = 7 ∨ pk % 10 = 8 ∨ pk % 10 = 9 ∨ pk % 10 < 5 from by omega) with h7 | h7 | h7 | h7 | h7 | h7
          · as_aux_lemma =>
              have f5 : ((pk : Int) % 10 == 5) = true := by rw [beq_iff_eq]; omega
              clear h7
              have hfw := pair_fwd HPA.out ps pa pb (by omega) HS.out HAB.out
              have d1 := HRA.out.cell 1 (by simp)
              have d2 := HRA.out.cell 2 (by simp)
              have d3 := HRA.out.cell 3 (by simp)
              simp only [List.getElem_cons_succ, List.getElem_cons_zero] at d1 d2 d3
              go_wp2_with fail
              refine hfw.mono ?_
              rintro e w2 ⟨vp, rfl, hT2, hb2⟩
              obtain ⟨er, her⟩ : ∃ er, er = (if badP ps pa pb then (2 : Int) else 0) := ⟨_, rfl⟩
              have HER := Lib.hid her
              rw [← her]
              have HP2 := Lib.hid (HPA.out.next hb2 HB0.out)
              have hrA2 := HRA.out.next hb2
              have k1 := hrA2.cell 1 (by simp)
              have k2 := hrA2.cell 2 (by simp)
              have k3 := hrA2.cell 3 (by simp)
              simp only [List.getElem_cons_succ, List.getElem_cons_zero] at k1 k2 k3
              have HPG9 := Lib.hid (pair_page HP2.out ps pa pb false (by omega) HS.out HAB.out)
              have HT2 := Lib.hid hT2
              clear hfw hb2 hrA2 hT2 her d1 d2 d3
              go_wp2_with fail
              refine HPG9.out.mono ?_
              rintro e w3 ⟨vq, rfl, hT3, hb3⟩
              rw [← HER.out]
              have HTT := Lib.hid (law_ToldSame vp vq (pageB L ps pa pb false) w3 (HT2.out.next hb3) hT3 (pageB_len HP2.out.fine (by omega) _ _ _ _))
              have HP3 := Lib.hid (HP2.out.next hb3 HB0.out)
              clear hT3 hb3
              go_wp2_with fail
              refine HTT.out.mono ?_
              rintro e w4 ⟨rfl, hb4⟩
              have HPF := Lib.hid (HP3.out.next hb4 HB0.out)
              have HLF := Lib.hid (show L.length ≤ 101 by omega)
              have e95 : (er == er) = true := by simp
              have e96 : (er != er) = false := by simp
              clear hb4
              have HLZ := Lib.hid (show (L).length ≤ k + 1 from by have := HLK.out; omega)
              go_wp2_with fail
              go_meet
              case rel => exact ⟨L, vm, vL, vM, sure, HPF.out, HLZ.out⟩
          · as_aux_lemma =>
              have f5 : ((pk : Int) % 10 == 5) = false := by rw [beq_eq_false_iff_ne]; omega
              have f6 : ((pk : Int) % 10 == 6) = true := by rw [beq_iff_eq]; omega
              clear h7
              have hfw := pair_back HPA.out ps pa pb (by omega) HS.out HAB.out
              have d1 := HRA.out.cell 1 (by simp)
              have d2 := HRA.out.cell 2 (by simp)
              have d3 := HRA.out.cell 3 (by simp)
              simp only [List.getElem_cons_succ, List.getElem_cons_zero] at d1 d2 d3
              go_wp2_with fail
              refine hfw.mono ?_
              rintro e w2 ⟨vp, rfl, hT2, hb2⟩
              obtain ⟨er, her⟩ : ∃ er, er = (if badP ps pa pb then (2 : Int) else 0) := ⟨_, rfl⟩
              have HER := Lib.hid her
              rw [← her]
              have HP2 := Lib.hid (HPA.out.next hb2 HB0.out)
              have hrA2 := HRA.out.next hb2
              have k1 := hrA2.cell 1 (by simp)
              have k2 := hrA2.cell 2 (by simp)
              have k3 := hrA2.cell 3 (by simp)
              simp only [List.getElem_cons_succ, List.getElem_cons_zero] at k1 k2 k3
              have HPG9 := Lib.hid (pair_page HP2.out ps pa pb true (by omega) HS.out HAB.out)
              have HT2 := Lib.hid hT2
              clear hfw hb2 hrA2 hT2 her d1 d2 d3
              go_wp2_with fail
              refine HPG9.out.mono ?_
              rintro e w3 ⟨vq, rfl, hT3, hb3⟩
              rw [← HER.out]
              have HTT := Lib.hid (law_ToldSame vp vq (pageB L ps pa pb true) w3 (HT2.out.next hb3) hT3 (pageB_len HP2.out.fine (by omega) _ _ _ _))
              have HP3 := Lib.hid (HP2.out.next hb3 HB0.out)
              clear hT3 hb3
              go_wp2_with fail
              refine HTT.out.mono ?_
              rintro e w4 ⟨rfl, hb4⟩
              have HPF := Lib.hid (HP3.out.next hb4 HB0.out)
              have HLF := Lib.hid (show L.length ≤ 101 by omega)
              have e95 : (er == er) = true := by simp
              have e96 : (er != er) = false := by simp
              clear hb4
              have HLZ := Lib.hid (show (L).length ≤ k + 1 from by have := HLK.out; omega)
              go_wp2_with fail
              go_meet
              case rel => exact ⟨L, vm, vL, vM, sure, HPF.out, HLZ.out⟩
          · as_aux_lemma =>
              have f5 : ((pk : Int) % 10 == 5) = false := by rw [beq_eq_false_iff_ne]; omega
              have f6 : ((pk : Int) % 10 == 6) = false := by rw [beq_eq_false_iff_ne]; omega
              have f7 : ((pk : Int) % 10 == 7) = true := by rw [beq_iff_eq]; omega
              clear h7
              have hla := model_Last B vm L sure ps _ HPA.out.m.r (by omega) HS.out
              obtain ⟨a9, e9, hv9⟩ : ∃ a e : Int, (if streamOk ps then Value.tuple #[.int .i64 (lastL L ps), .int .i64 0] else .tuple #[.int .i64 (-1), .int .i64 2]) = .tuple #[.int .i64 a, .int .i64 e] := by split <;> exact ⟨_, _, rfl⟩
              rw [hv9] at hla
              go_wp2_with fail
              refine hla.mono ?_
              rintro e w2 ⟨rfl, hb2⟩
              have HP2 := Lib.hid (HPA.out.next hb2 HB0.out)
              have hrA2 := HRA.out.next hb2
              have d1 := hrA2.cell 1 (by simp)
              simp only [List.getElem_cons_succ, List.getElem_cons_zero] at d1
              have hlr := refM_Last (B + 1) vL vM (allL L) (lenL L) sure ps w2 HP2.out.r.r (by have := allL_100 HP2.out.fine (by omega); omega) HS.out
              rw [show (((streamT (allL L) ps).length : Int) - 1) = lastL L ps from rfl, hv9] at hlr
              have HLR := Lib.hid hlr
              clear hla hlr hb2 hrA2 hv9
              go_wp2_with fail
              refine HLR.out.mono ?_
              rintro e w3 ⟨rfl, hb3⟩
              have HPF := Lib.hid (HP2.out.next hb3 HB0.out)
              have HLF := Lib.hid (show L.length ≤ 101 by omega)
              have e95 : (a9 == a9) = true := by simp
              have e96 : (a9 != a9) = false := by simp
              have e97 : (e9 == e9) = true := by simp
              have e98 : (e9 != e9) = false := by simp
              clear hb3
              have HLZ := Lib.hid (show (L).length ≤ k + 1 from by have := HLK.out; omega)
              go_wp2_with fail
              go_meet
              case rel => exact ⟨L, vm, vL, vM, sure, HPF.out, HLZ.out⟩
          · as_aux_lemma =>
              have f5 : ((pk : Int) % 10 == 5) = false := by rw [beq_eq_false_iff_ne]; omega
              have f6 : ((pk : Int) % 10 == 6) = false := by rw [beq_eq_false_iff_ne]; omega
              have f7 : ((pk : Int) % 10 == 7) = false := by rw [beq_eq_false_iff_ne]; omega
              have f8 : ((pk : Int) % 10 == 8) = true := by rw [beq_iff_eq]; omega
              clear h7
              obtain ⟨W1, hW1⟩ : ∃ W1, W1 = (wr.alloc (.cells #[.int .u8 (pk : Int), .string ps, .int .i64 pa, .int .i64 pb, .slice Ae pl.length ce] 34)) := ⟨_, rfl⟩
              have hfl := model_Flush B vm L sure _ HPA.out.m.r
              obtain ⟨h8a, h8b, h8c⟩ := HPA.out.flush1 L.length
              have hfr := refM_Flush (B + 1) vL vM (allL L) (lenL L) sure _ h8b.r
              rw [show (lenL L).length = L.length from by unfold lenL; rw [List.length_map]] at hfr
              have HPF := Lib.hid (HPA.out.flush L.length)
              have HLF := Lib.hid (show L.length ≤ 101 by omega)
              have HFR := Lib.hid hfr
              clear h8a h8b h8c hfr hW1
              go_wp2_with fail
              refine hfl.mono ?_
              rintro e w2 ⟨rfl, rfl⟩
              go_wp2_with fail
              refine HFR.out.mono ?_
              rintro e w3 ⟨rfl, rfl⟩
              obtain ⟨W9, hW9⟩ : ∃ W9, W9 = (((wr.alloc (.cells #[.int .u8 (pk : Int), .string ps, .int .i64 pa, .int .i64 pb, .slice Ae pl.length ce] 34)).setCell ⟨B, 2, none⟩ (.int .i64 (L.length : Nat))).setCell ⟨B + 1, 2, none⟩ (.int .i64 (L.length : Nat))) := ⟨_, rfl⟩
              rw [← hW9] at HPF ⊢
              clear hW9 hfl
              have HLZ := Lib.hid (show (L).length ≤ k + 1 from by have := HLK.out; omega)
              go_wp2_with fail
              go_meet
              case rel => exact ⟨L, vm, vL, vM, L.length, HPF.out, HLZ.out⟩
          · as_aux_lemma =>
              have f5 : ((pk : Int) % 10 == 5) = false := by rw [beq_eq_false_iff_ne]; omega
              have f6 : ((pk : Int) % 10 == 6) = false := by rw [beq_eq_false_iff_ne]; omega
              have f7 : ((pk : Int) % 10 == 7) = false := by rw [beq_eq_false_iff_ne]; omega
              have f8 : ((pk : Int) % 10 == 8) = false := by rw [beq_eq_false_iff_ne]; omega
              have f9 : ((pk : Int) % 10 == 9) = true := by rw [beq_iff_eq]; omega
              clear h7
              have hal := model_All B vm L sure _ HPA.out.m.r (by omega)
              go_wp2_with fail
              refine hal.mono ?_
              rintro e w2 ⟨vt, rfl, hot, hb2⟩
              obtain ⟨At, ctt, rfl, hct1, hct2, -⟩ := Reads.of_own hot
              obtain ⟨tn, htn⟩ : ∃ tn, tn = (allL L).length := ⟨_, rfl⟩
              have htn16 : tn ≤ 1600 := by rw [htn]; exact allL_100 HPA.out.fine (by omega)
              rw [← htn] at hot hct1
              have HTN := Lib.hid htn
              rw [show (allL L).length = tn from htn.symm]
              have HP2 := Lib.hid (HPA.out.next hb2 HB0.out)
              have HOT := Lib.hid hot
              have HB2 := Lib.hid hb2
              have hrA2 := HRA.out.next hb2
              have d2 := hrA2.cell 2 (by simp)
              have d3 := hrA2.cell 3 (by simp)
              simp only [List.getElem_cons_succ, List.getElem_cons_zero] at d2 d3
              clear hot hb2 hal hct2 htn hrA2
              obtain ⟨q, hq, hqe⟩ := cut_index pa tn htn16
              have HQ := Lib.hid hq
              have q1 : (0 : Int) ≤ q := by omega
              have q2 : (q : Int) ≤ ctt := by omega
              have hs9 : ∀ k, sumN (lenL L) k ≤ (allL L).length := fun k => by
                rw [sum_lenL]
                have h2 : allL L = allL (L.take k) ++ allL (L.drop k) := by rw [← allL_append, List.take_append_drop]
                rw [h2, List.length_append]; omega
              have HS9 := Lib.hid hs9
              have HLL := Lib.hid (show (lenL L).length ≤ 1000000 by unfold lenL; rw [List.length_map]; omega)
              clear hs9
              by_cases hst : Int.tmod pb 5 = 0 ∧ 0 < q
              · obtain ⟨h51, h0q⟩ := hst
                obtain ⟨m, rfl⟩ : ∃ m, q = m + 1 := ⟨q - 1, by omega⟩
                obtain ⟨bt, ct9, e9, hbt, hbl⟩ := own_form HOT.out (by omega)
                cases e9
                obtain ⟨t, ht⟩ : ∃ t, (allL L)[m]? = some t := ⟨_, List.getElem?_eq_getElem (by rw [← HTN.out]; omega)⟩
                have hdt := told_small HP2.out.fine t (List.mem_of_getElem? ht)
                have hT0 : Tolds w2 (.slice (some ⟨bt, 0, none⟩) tn ctt) (allL L) := ⟨by have := HOT.out; rw [HTN.out] at this ⊢; exact Reads.of_own this, allL_ok HP2.out.fine⟩
                obtain ⟨bt', off', e9, -, hcl⟩ := hT0.later (by rw [← HTN.out]; omega)
                cases e9
                obtain ⟨-, -, -, c9, -⟩ := hcl m t ht w2 (Below.refl _ _)
                have c9 : w2.cell? ⟨bt, m * 5 + 2 + 1, none⟩ = some (.string t.2.2.2.1) := by rw [Nat.zero_add] at c9; exact c9
                have hfz := World.ownsRow.frozenAt HOT.out (m * 5 + 2 + 1)
                have hot9 : (w2.setCell ⟨bt, m * 5 + 2 + 1, none⟩ (.string (t.2.2.2.1 ++ ⟨#[63]⟩))).ownsRow _ 48 5 (.slice (some ⟨bt, 0, none⟩) tn ctt) tn (toldsC ((allL L).set m (turnT t (t.2.2.2.1 ++ ⟨#[63]⟩)))) := own_turned HOT.out ht (t.2.2.2.1 ++ ⟨#[63]⟩)
                have hok9 := turned_ok (allL_ok HP2.out.fine) ht (t.2.2.2.1 ++ ⟨#[63]⟩) (by rw [ByteArray.size_append]; unfold maxLen; show t.2.2.2.1.size + 1 ≤ _; omega)
                have HOT9 := Lib.hid hot9
                have HOK9 := Lib.hid hok9
                have HP9 := Lib.hid (HPA.out.next (HB2.out.setCell (p := ⟨bt, m * 5 + 2 + 1, none⟩) hbt (.string (t.2.2.2.1 ++ ⟨#[63]⟩))) HB0.out)
                have hlT : ((allL L).set m (turnT t (t.2.2.2.1 ++ ⟨#[63]⟩))).length = tn := by rw [List.length_set]; exact HTN.out.symm
                generalize hT9 : (allL L).set m (turnT t (t.2.2.2.1 ++ ⟨#[63]⟩)) = T9 at *
                have HLT := Lib.hid hlT
                have hgr9 : ¬ 9223372036854775807 < t.2.2.2.1.size + 1 := by omega
                clear hT9 hlT hot9 hok9 hcl hT0 ht hdt hbl
                go_wp2_with fail
                generalize w2.setCell ⟨bt, m * 5 + 2 + 1, none⟩ (.string (t.2.2.2.1 ++ ⟨#[63]⟩)) = W3 at HP9 HOT9 ⊢
                clear hfz c9 hgr9
                have HTL := Lib.hid (show Tolds W3 (.slice (some ⟨bt, 0, none⟩) (m + 1) ctt) (T9.take (m + 1)) from Tolds.front (n := T9.length) ⟨by have := HOT9.out; rw [← HLT.out] at this; exact Reads.of_own this, HOK9.out⟩ (m + 1) (by rw [HLT.out]; exact HQ.out))
                have HCT := Lib.hid (model_Cut HP9.out.m _ _ HTL.out (by rw [List.length_take]; omega) (by omega))
                refine HCT.out.mono ?_
                rintro e w3 h3
                have H3 := Lib.hid h3
                obtain ⟨hr3, ho3, b3, rfl⟩ := HP9.out.mid h3 HOT9.out
                have HTL3 := Lib.hid (show Tolds w3 (.slice (some ⟨bt, 0, none⟩) (m + 1) ctt) (T9.take (m + 1)) from Tolds.front (n := T9.length) ⟨by rw [← HLT.out] at ho3; exact Reads.of_own ho3, HOK9.out⟩ (m + 1) (by rw [HLT.out]; exact HQ.out))
                have HC4 := Lib.hid (refM_Cut hr3 _ _ HTL3.out (by rw [List.length_take]; omega) (by rw [← HTN.out]; omega) HLL.out HS9.out)
                clear h3 hr3 ho3
                go_wp2_with fail
                refine HC4.out.mono ?_
                rintro e w4 h4
                obtain ⟨b4, v4, vL4, vM4, L4, s4, he1, rfl, hP4, hl4⟩ := HP9.out.cuts HB0.out H3.out h4
                cases he1
                have HPF := Lib.hid hP4
                have HLF := Lib.hid (show L4.length ≤ 101 by omega)
                have HL4 := Lib.hid hl4
                have e95 : (b3 == b3) = true := by simp
                have e96 : (b3 != b3) = false := by simp
                clear h4 hP4 hl4
                have HLZ := Lib.hid (show (L4).length ≤ k + 1 from by have := HLK.out; have := HL4.out; omega)
                go_wp2_with fail
                go_meet
                case rel => exact ⟨L4, v4, vL4, vM4, s4, HPF.out, HLZ.out⟩
              · have hcond : ¬ Int.tmod pb 5 = 0 ∨ (Int.tmod pb 5 = 0 ∧ ¬ (0 : Int) < q) := by
                  rcases (show ¬ Int.tmod pb 5 = 0 ∨ (Int.tmod pb 5 = 0 ∧ ¬ 0 < q) from by omega) with h | ⟨h, h'⟩
                  · exact .inl h
                  · exact .inr ⟨h, by omega⟩
                have hTl : Tolds w2 (.slice At q ctt) ((allL L).take q) := Tolds.front (n := (allL L).length) ⟨by have := HOT.out; rw [HTN.out] at this; exact Reads.of_own this, allL_ok HP2.out.fine⟩ q (by rw [← HTN.out]; exact hq)
                have hct := model_Cut HP2.out.m _ _ hTl (by rw [List.length_take]; omega) (by omega)
                have HCT := Lib.hid hct
                clear hct hTl hst
                rcases hcond with h51 | ⟨h51, h52⟩
                all_goals
                  go_wp2_with fail
                  refine HCT.out.mono ?_
                  rintro e w3 h3
                  have H3 := Lib.hid h3
                  obtain ⟨hr3, ho3, b3, rfl⟩ := HP2.out.mid h3 HOT.out
                  have HR3 := Lib.hid hr3
                  have hTl3 : Tolds w3 (.slice At q ctt) ((allL L).take q) := Tolds.front (n := (allL L).length) ⟨by rw [HTN.out] at ho3; exact Reads.of_own ho3, allL_ok HP2.out.fine⟩ q (by rw [← HTN.out]; exact HQ.out)
                  have HC4 := Lib.hid (refM_Cut hr3 _ _ hTl3 (by rw [List.length_take]; omega) (by rw [← HTN.out]; omega) HLL.out HS9.out)
                  clear h3 hr3 ho3 hTl3
                  go_wp2_with fail
                  refine HC4.out.mono ?_
                  rintro e w4 h4
                  obtain ⟨b4, v4, vL4, vM4, L4, s4, he1, rfl, hP4, hl4⟩ := HP2.out.cuts HB0.out H3.out h4
                  cases he1
                  have HPF := Lib.hid hP4
                  have HLF := Lib.hid (show L4.length ≤ 101 by omega)
                  have HL4 := Lib.hid hl4
                  have e95 : (b3 == b3) = true := by simp
                  have e96 : (b3 != b3) = false := by simp
                  clear h4 hP4 hl4
                  have HLZ := Lib.hid (show (L4).length ≤ k + 1 from by have := HLK.out; have := HL4.out; omega)
                  go_wp2_with fail
                  go_meet
                  case rel => exact ⟨L4, v4, vL4, vM4, s4, HPF.out, HLZ.out⟩
          · as_aux_lemma =>
              have f5 : ((pk : Int) % 10 == 5) = false := by rw [beq_eq_false_iff_ne]; omega
              have f6 : ((pk : Int) % 10 == 6) = false := by rw [beq_eq_false_iff_ne]; omega
              have f7 : ((pk : Int) % 10 == 7) = false := by rw [beq_eq_false_iff_ne]; omega
              have f8 : ((pk : Int) % 10 == 8) = false := by rw [beq_eq_false_iff_ne]; omega
              have f9 : ((pk : Int) % 10 == 9) = false := by rw [beq_eq_false_iff_ne]; omega
              clear h7
              obtain ⟨W, hW⟩ : ∃ W, W = (wr.alloc (.cells #[.int .u8 (pk : Int), .string ps, .int .i64 pa, .int .i64 pb, .slice Ae pl.length ce] 34)) := ⟨_, rfl⟩
              rw [← hW] at HPA HRA d0 ⊢
              clear hW
              obtain ⟨i0, hi0, hz0, hz1, hz2⟩ := info_parts infoEv
              have d1 := HRA.out.cell 1 (by simp)
              have d2 := HRA.out.cell 2 (by simp)
              have d4 := HRA.out.cell 4 (by simp)
              simp only [List.getElem_cons_succ, List.getElem_cons_zero] at d1 d2 d4
              have hown0 : W.ownsRow W.heap.size 46 3 (.slice none 0 0) 0 [] := World.ownsRow_nil _ _ _ _
              have HEv := Lib.hid (show Evs W (.slice Ae pl.length ce) pl from (HEin.out.next (show Below w.heap.size w W by rw [← HB.out]; exact HPA.out.below)).1)
              have Hone := Lib.hid (evC_one pl)
              have hpl : pl.length ≤ 20 := HSML.out.2
              go_wp2_with (first
                | (at_builtin; refine wpList_append_reads _ rfl _ _ 32 rfl W.heap.size 46 i0 _ 3 40 Try.underlying32 hi0 hz0 hz1 hz2 rfl (by decide) _ 0 _ rfl hown0 _ _ _ rfl HEv.out.1 Hone.out (by unfold maxLen; omega) (by omega) (Nat.le_refl _) ?_; intro v3 w3 hown3 hg3; rw [Nat.zero_add, List.nil_append] at hown3; obtain ⟨A3, c9, rfl, -⟩ := Reads.of_own hown3; have hb3 : Below W.heap.size W w3 := (Below.refl _ _).grown hg3 (Nat.le_refl _) (own_block_ge hown0); have hrA3 := HRA.out.next hb3; have HR3 := Lib.hid hrA3; have d1 := hrA3.cell 1 (by simp); have d2 := hrA3.cell 2 (by simp); simp only [List.getElem_cons_succ, List.getElem_cons_zero] at d1 d2))
              have HP3 := Lib.hid (HPA.out.next hb3 HB0.out)
              have HO3 := Lib.hid hown3
              have HEV := Lib.hid HEv.out.2
              have HFR := Lib.hid (show ∀ p ∈ L, ∀ k, p.1.ownBlock = some k → k < W.heap.size from fun p hp q hq => own_lt (HPA.out.m.2.2.2 p hp).1 q hq)
              have HAP := Lib.hid (model_Append HP3.out.m ps pa (.slice A3 pl.length c9) pl ⟨Reads.of_own hown3, HEV.out⟩ (by omega) HS.out (by omega) HP3.out.size HAB.out.1)
              clear hb3 hg3 hown3 hown0 hrA3 d0 d4
              go_wp2_with fail
              refine HAP.out.mono ?_
              rintro e w4 h4
              have H4 := Lib.hid (show AppP w3 B vm L sure ps pa pl e w4 from h4)
              obtain ⟨hr4, hb4, -, hsz4, hrow4, a4, x4, rfl⟩ := HP3.out.apps1 HB0.out H4.out HO3.out
              have hrA4 := hrow4 _ _ _ HR3.out types_act.1 types_act.2
              have d1 := hrA4.cell 1 (by simp)
              have d2 := hrA4.cell 2 (by simp)
              have d4 := hrA4.cell 4 (by simp)
              simp only [List.getElem_cons_succ, List.getElem_cons_zero] at d1 d2 d4
              have HLn := Lib.hid (show (allL L).length ≤ 1600 from allL_100 HPA.out.fine (by omega))
              have HAR := Lib.hid (refM_Append hr4 ps pa (.slice Ae pl.length ce) pl (fun w' hb => (HEin.out.next (show Below w.heap.size w w' from ⟨hb.os.trans hb4.os, hb.tape.trans hb4.tape, hb.output.trans hb4.output, Nat.le_trans hb4.size hb.size, fun q hq => (hb.block q (by rw [HB.out]; exact hq)).trans (hb4.block q (by rw [HB.out]; exact hq))⟩)).1) (by omega) HS.out (by have := HLn.out; omega) (by unfold lenL; rw [List.length_map]; omega) (by have := HP3.out.size; omega) HAB.out.1)
              clear h4 hr4 hb4 hrow4 hrA4
              go_wp2_with fail
              refine HAR.out.mono ?_
              rintro e w5 h5
              obtain ⟨a5, x5, v5, vL5, vM5, L5, he4, rfl, hP5, hl5, ho5, hne5⟩ := HP3.out.apps HB0.out H4.out (show AppR w4 B vL vM (allL L) (lenL L) sure ps pa pl e w5 from h5) HO3.out HFR.out
              cases he4
              have HP5 := Lib.hid hP5
              have HL5 := Lib.hid hl5
              have HO5 := Lib.hid ho5
              have HNE := Lib.hid hne5
              have e91 : (a4 == a4) = true := by simp
              have e92 : (a4 != a4) = false := by simp
              have e93 : (x4 == x4) = true := by simp
              have e94 : (x4 != x4) = false := by simp
              obtain ⟨n9, hn9⟩ : ∃ n9, n9 = pl.length := ⟨_, rfl⟩
              have HN9 := Lib.hid hn9
              rw [show pl.length = n9 from hn9.symm]
              rw [← hn9] at hpl
              clear h5 hP5 hl5 ho5 hne5 hn9 d1 d2 d4
              go_wp2_with fail
              go_loopw [25] (fun i wx => ∃ (j : Nat) (xs : List Value), j ≤ n9 ∧ i = .int .i64 (j : Int) ∧ Pair w wx B v5 vL5 vM5 L5 sure ∧ wx.ownsRow W.heap.size 46 3 (.slice A3 n9 c9) n9 xs) (fun i _ => n9 - (intOf i).toNat)
              case atStart => exact ⟨0, _, by omega, rfl, HP5.out, by have := HO5.out; rw [← HN9.out] at this; exact this⟩
              case round =>
                obtain ⟨j, xs, hj, rfl, hPx, hox⟩ := hrel
                have HPx := Lib.hid hPx
                have HOx := Lib.hid hox
                clear hPx hox
                by_cases hjl : j < n9
                · have i2 : (j : Int) < n9 := by omega
                  obtain ⟨b9, c8, e9, hb9, hlt9⟩ := own_form HOx.out (by omega)
                  cases e9
                  have hfz := World.ownsRow.frozenAt HOx.out (j * 3)
                  have hcl := World.ownsRow.cellAt HOx.out (j * 3) (by omega)
                  rw [List.getElem?_eq_getElem (by rw [HOx.out.1]; omega)] at hcl
                  have HPy := Lib.hid (HPx.out.mark (b := b9) (own_row HOx.out rfl) (by have := HPA.out.size; omega) (fun p hp q hq h9 => HNE.out p hp q hq (by rw [h9]; rfl)) (j * 3) (.string ⟨#[33]⟩))
                  have HOy := Lib.hid (World.ownsRow.stored HOx.out (j * 3) (.string ⟨#[33]⟩)).1
                  clear hlt9 hb9
                  go_wp2
                  go_roundw
                  case rel => exact ⟨j + 1, _, by omega, by go_num, HPy.out, HOy.out⟩
                  case measure => simp [intOf]; omega
                · obtain rfl : j = n9 := by omega
                  have HPF := Lib.hid HPx.out
                  have HLZ := Lib.hid (show L5.length ≤ k + 1 by have := HL5.out; have := HLK.out; omega)
                  go_wp2_with fail
                  go_meet
                  case rel => exact ⟨L5, v5, vL5, vM5, sure, HPF.out, HLZ.out⟩
        case rest =>
          as_aux_lemma =>
            obtain ⟨L9, v9, vL9, vM9, s9, hP9, hl9⟩ := hcut
            have HPF := Lib.hid hP9
            have HLF := Lib.hid (show L9.length ≤ 101 by omega)
            have HL9 := Lib.hid hl9
            clear hP9 hl9
            have hmany := model_Many B v9 L9 s9 wc HPF.out.m.r (by have := HLF.out; omega)
            go_wp2_with fail
            refine hmany.mono ?_
            rintro e w10 ⟨rfl, hb10⟩
            have HPG := Lib.hid (HPF.out.next hb10 HB0.out)
            have hlenM : (lenL L9).length = (L9).length := by unfold lenL; rw [List.length_map]
            obtain ⟨AmF, cmF, hvM, -⟩ := id HPG.out.r.r.2.2
            rw [hlenM] at hvM
            have HVM := Lib.hid hvM
            have HSS := Lib.hid (fun w' (hb : Below w10.heap.size w10 w') => (show w'.cell? ⟨B + 1, 0, none⟩ = some vL9 ∧ w'.cell? ⟨B + 1, 1, none⟩ = some (.slice AmF (L9).length cmF) ∧ w'.cell? ⟨B + 1, 2, none⟩ = some (.int .i64 (s9 : Nat)) from by
              have := (HPG.out.r.r.next hb).cells
              rw [HVM.out] at this
              exact this))
            have HAL := Lib.hid (fun w' (hb : Below w10.heap.size w10 w') => model_All B v9 (L9) s9 w' (HPG.out.m.r.next hb) (by have := HLF.out; omega))
            have HTL := Lib.hid (fun w' (hb : Below w10.heap.size w10 w') => (HPG.out.r.r.next hb).2.1)
            have HOKL := Lib.hid (allL_ok HPG.out.fine)
            have HL16 := Lib.hid (allL_100 HPG.out.fine (by have := HLF.out; omega))
            have e91 : (((L9).length : Int) == (L9).length) = true := by simp
            have e92 : (((s9 : Nat) : Int) == ((s9 : Nat) : Int)) = true := by simp
            have e93 : (((L9).length : Int) != (L9).length) = false := by simp
            have e94 : (((s9 : Nat) : Int) != ((s9 : Nat) : Int)) = false := by simp
            have hb10' : Below w10.heap.size w10 w10 := Below.refl _ _
            clear hb10 hmany hvM hlenM
            go_wp2_with fail
            obtain ⟨s0, s1, s2⟩ := HSS.out w10 (Below.refl _ _)
            refine wp_region_noPanic ?_
            go_region_held_law (fun w' => w'.cell? ⟨B + 1, 0, none⟩ = some vL9 ∧ w'.cell? ⟨B + 1, 1, none⟩ = some (.slice AmF (L9).length cmF) ∧ w'.cell? ⟨B + 1, 2, none⟩ = some (.int .i64 (s9 : Nat)))
              ((refine HSS.out _ ?_; repeat (first | exact Below.refl _ _ | assumption | refine Below.drew ?_ | refine bAllocM ?_ _ | refine below_chain ?_ (by assumption))))
              (first
                | (go_at_call 17; refine (HAL.out _ (by first | exact Below.refl _ _ | exact (Below.refl _ _).drew)).mono ?_; rintro e wA ⟨vA, rfl, hoA, hbA⟩; have hbA' : Below w10.heap.size w10 wA := (by first | exact hbA | exact below_chain (Below.refl _ _).drew hbA))
                | (go_at_call 11; refine (law_ToldSame _ _ (allL (L9)) _ ⟨Reads.of_own hoA, HOKL.out⟩ (HTL.out _ hbA') HL16.out).mono ?_; rintro e wT ⟨rfl, hbT⟩; have hbT' : Below w10.heap.size w10 wT := below_chain hbA' hbT))
            all_goals (refine NoPanic.normal ?_)
            all_goals
              have HPZ := Lib.hid (HPG.out.next hbT' HB0.out)
              clear hbA hbA' hbT hbT' hoA
              go_wp2
              go_roundw
              case rel => exact ⟨k + 1, L9, v9, vL9, vM9, s9, by omega, by go_num, HPZ.out, HL9.out⟩
              case measure => simp [intOf]; omega
      · obtain rfl : k = n := by omega
        go_wp2_with fail
        refine (law_modelled _).mono ?_
        rintro e w1 ⟨rfl, hb1⟩
        have hbw := below_more HP.out.below hb1 (by rw [HB.out]; exact Nat.le_refl _)
        have HBF := Lib.hid hbw
        clear hbw hb1
        go_wp2
        go_ret
        exact ⟨rfl, by have := HBF.out; rw [HB.out] at this; exact this⟩
end Go.Proofs.Ytmplabhofhllmaa
