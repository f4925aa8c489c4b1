/-
  BATCHES: the reference's Get.
-/
import Derived.Test.YtiojapjidgjaoaaBatGet
import Derived.Test.YtiojapjidgjaoaaBatRefPut
import Derived.Test.YtiojapjidgjaoaaEvRef
namespace Go.Proofs.Ytiojapjidgjaoaa
open Go.RowKit
set_option linter.unusedVariables false

theorem beq_dec (a b : List UInt8) : (a == b) = decide (a = b) := by
  by_cases h : a = b
  · subst h; simp
  · rw [decide_eq_false h, beq_eq_false_iff_ne]; exact h

set_option maxHeartbeats 4000000 in
theorem refB_Get (s : ByteArray) (w : World) (hs : s.size ≤ 1000000000) :
    Calls Try.prog 38 #[.string s] w fun e w' => ∃ v, e = .returned (.tuple #[v, .int .i64 (batE (lb s))]) ∧ BatV w' v (batV (lb s)) ∧ Below w.heap.size w w' := by
  have n1 := fun w => ref_Read s w (by omega)
  have n3 := fun w => ref_Get ((bs (readB (lb s))).extract 0 8) w (by simp [maxLen]; omega)
  have hx : (bs (readB (lb s))).extract 0 8 = bs ((readB (lb s)).take 8) := by rw [bs_extract, lb_bs, List.drop_zero, Nat.sub_zero]
  have hLl : (lb s).length ≤ 1000000000 := by rw [length_lb]; exact hs
  have Hsl := Lib.hid (bs_lb s).symm
  have hz0 := lit_below w (.cells #[.string ⟨#[]⟩, .int .i64 0, .slice none 0 0] 49)
  have hrow : Row (w.alloc (.cells #[.string ⟨#[]⟩, .int .i64 0, .slice none 0 0] 49)) w.heap.size 49 [.string ⟨#[]⟩, .int .i64 0, .slice none 0 0] := Row.new w #[.string ⟨#[]⟩, .int .i64 0, .slice none 0 0] _
  have hst : ∀ (w' : World) v0 v1 v2, Below w.heap.size w w' → Below w.heap.size w (((w'.setCell ⟨w.heap.size, 0, none⟩ v0).setCell ⟨w.heap.size, 1, none⟩ v1).setCell ⟨w.heap.size, 2, none⟩ v2) := fun w' v0 v1 v2 h => ((h.setCell (Nat.le_refl _) _).setCell (Nat.le_refl _) _).setCell (Nat.le_refl _) _
  have HS := Lib.hid hst
  rw [hx] at n3
  simp only [lb_bs] at n3
  have Hx := Lib.hid hx
  clear hst hx
  generalize lb s = L at *
  have hBl : (readB L).length ≤ 1000000000 := by have := readB_len L; omega
  have hnone : seenB L = false → batE L = 10 ∧ batV L = (ByteArray.empty, 0, []) := fun h => by unfold batE batV; rw [h]; exact ⟨rfl, rfl⟩
  have Hnone := Lib.hid hnone
  clear hnone
  have hfr : frontOk L = (readOk L && decide (9 ≤ (readB L).length) && decide (getN ((readB L).take 8) ≤ 1073741824)) := rfl
  rcases ho1 : readOk L with _ | _
  · obtain ⟨e1, e2⟩ := Hnone.out (seen_front (by rw [hfr, ho1]; rfl))
    rw [ho1] at n1
    rw [e1, e2]
    generalize readA L = A at *
    generalize readB L = B at *
    clear hfr e1 e2 ho1
    go_enter Try.func38, Try.ntmps38
    go_wp2_with fail
    refine (n1 _).mono ?_
    rintro e w1 ⟨rfl, hb1⟩
    have hrow1 := hrow.next hb1
    have r0 := hrow1.cell 0 (by simp)
    have r1 := hrow1.cell 1 (by simp)
    have r2 := hrow1.cell 2 (by simp)
    have f0 := hrow1.frozen 0 (by simp)
    have f1 := hrow1.frozen 1 (by simp)
    have f2 := hrow1.frozen 2 (by simp)
    simp only [List.getElem_cons_zero, List.getElem_cons_succ] at r0 r1 r2
    clear hrow1 n1 n3
    go_wp2
    refine bodyPost_ret (v := .tuple #[.agg #[.string ⟨#[]⟩, .int .i64 0, .slice none 0 0], .int .i64 10]) (by simp [results, Try.results38, go_sem, r0, r1, r2]) rfl ⟨_, rfl, batV_none _, HS.out _ _ _ _ (below_chain hz0 hb1)⟩
  · by_cases h9 : 9 ≤ (readB L).length
    · by_cases hN : getN ((readB L).take 8) ≤ 1073741824
      · have hfo : frontOk L = true := by rw [hfr, ho1, decide_eq_true h9, decide_eq_true hN]; rfl
        have hm256 : manyB L ≤ 255 := by unfold manyB; have := ((readB L)[8]?.getD 0).toNat_lt; omega
        have hrl : (pastB L).length ≤ 1000000000 := by unfold pastB; rw [List.length_drop]; have := readB_len L; omega
        have hAl : (readA L).length ≤ 1000000000 := by have := readA_len L; omega
        have hgot : gotB L = (bs (readA L), ((getN ((readB L).take 8) : Nat) : Int), evsL (manyB L) (pastB L)) := rfl
        have hseen : evsOk (manyB L) (pastB L) = true → seenB L = (decide (checkB (gotB L) = 0) && decide (putB (gotB L) = L)) := fun h => by rw [← seen_doc]; unfold docB; rw [hfo, h]; simp only [Bool.true_and]; congr 1; exact beq_dec _ _
        have hyes : seenB L = true → batE L = 0 ∧ batV L = gotB L := fun h => by unfold batE batV; rw [h]; exact ⟨rfl, rfl⟩
        have hnot := fun k => seen_not (L := L) (k := k)
        have hokV := okV_evs (r := pastB L)
        have hEl := fun k => evsL_length k (pastB L)
        obtain ⟨i0, hi0, hz0', hz1, hz2⟩ := info_parts infoEv
        rw [ho1] at n1
        have hpast : pastB L = (readB L).drop 9 := rfl
        have hmany : manyB L = (((readB L)[8]?).getD 0).toNat := rfl
        clear hfr ho1
        generalize manyB L = m at *
        generalize pastB L = r0 at *
        generalize readA L = A at *
        generalize getN ((readB L).take 8) = N at *
        generalize readB L = B at *
        have h9' : ¬ (B.length : Int) < 9 := by omega
        have h9'' : (9 : Int) ≤ B.length := by omega
        have h8 : (8 : Int) ≤ B.length := by omega
        have h8' : (8 : Int) < B.length := by omega
        have hN' : ¬ (1073741824 : Int) < (N : Int) := by omega
        have hx9 : (bs B).extract 9 B.length = bs r0 := by rw [hpast, bs_extract, lb_bs, List.take_of_length_le (by simp)]
        have hix : (bs B)[8]'(by rw [size_bs]; omega) = B[8] := rfl
        have u1 : IntKind.i64.wrap (N : Int) = (N : Int) := by rw [IntKind.wrap_i64]; omega
        have hm8 : (B[8].toNat : Int) = (m : Int) := by rw [hmany, List.getElem?_eq_getElem (by omega)]; rfl
        have u2 : IntKind.i64.wrap (B[8].toNat : Int) = (m : Int) := by rw [IntKind.wrap_i64, hm8]; omega
        have Hgot := Lib.hid hgot
        have Hseen := Lib.hid hseen
        have Hyes := Lib.hid hyes
        have Hnot := Lib.hid hnot
        have HokV := Lib.hid hokV
        have HEl := Lib.hid hEl
        clear hgot hseen hyes hnot hokV hEl hfo hm8 hpast hmany
        go_enter Try.func38, Try.ntmps38
        go_wp2_with fail
        refine (n1 _).mono ?_
        rintro e w1 ⟨rfl, hb1⟩
        go_wp2_with fail
        try rw [Hx.out]
        refine (n3 _).mono ?_
        rintro e w' ⟨rfl, rfl⟩
        go_wp2_with fail
        try rw [Hx.out]
        refine (n3 _).mono ?_
        rintro e w' ⟨rfl, rfl⟩
        have hrow1 := hrow.next hb1
        have hb2 := below_chain hz0 (below_chain hb1 (lit_below w1 (.cells #[.string (bs A), .int .i64 (N : Int), .slice none 0 0] 49)))
        have hrow2 := hrow1.alloc (.cells #[.string (bs A), .int .i64 (N : Int), .slice none 0 0] 49)
        have hrowG := Row.new w1 #[.string (bs A), .int .i64 (N : Int), .slice none 0 0] 49
        have hRG : w.heap.size < w1.heap.size := hrow1.lt
        clear n1 n3 hrow hrow1 hb1
        go_wp2_with fail
        obtain ⟨G, hG⟩ : ∃ G, G = w1.heap.size := ⟨_, rfl⟩
        rw [← hG] at hrowG hRG ⊢
        clear hG
        generalize w1.alloc (.cells #[.string (bs A), .int .i64 (N : Int), .slice none 0 0] 49) = w2 at hrow2 hb2 hrowG ⊢
        have hGb := hrowG.lt
        have hown0 : w2.ownsRow w2.heap.size 28 3 (.slice none 0 0) 0 ((evsL 0 r0).flatMap evL) := World.ownsRow_nil _ _ _ _
        go_loopw [5, 9] (fun rest i wr => ∃ (k : Nat) (v : Value), k ≤ m ∧ i = .int .i64 (k : Int) ∧ rest = .string (bs (evsR k r0)) ∧ evsOk k r0 = true ∧ Row wr G 49 [.string (bs A), .int .i64 (N : Int), v] ∧ wr.ownsRow w2.heap.size 28 3 v k ((evsL k r0).flatMap evL) ∧
          Row wr w.heap.size 49 [.string ⟨#[]⟩, .int .i64 0, .slice none 0 0] ∧ Below w.heap.size w wr ∧ w2.heap.size ≤ wr.heap.size) (fun _ i _ => m - (intOf i).toNat)
        case atStart => exact ⟨0, _, Nat.zero_le _, rfl, rfl, rfl, hrowG, hown0, hrow2, hb2, Nat.le_refl _⟩
        case round =>
          obtain ⟨k, v, hk, rfl, rfl, hev, hrg, hown, hrw, hbr, hsz⟩ := hrel
          clear hrowG hown0 hrow2 hb2
          obtain ⟨A', c', rfl, -, -, -, -⟩ := Reads.of_own hown
          obtain ⟨g0, g1, g2, q0, q1, q2⟩ := row_agg hrg
          have Hown := Lib.hid hown
          have Hev := Lib.hid hev
          clear hown hev
          by_cases hlt : k < m
          · have i1 : (k : Int) < m := by omega
            have i2 : IntKind.i64.wrap ((k : Int) + 1) = ((k + 1 : Nat) : Int) := by rw [IntKind.wrap_i64]; omega
            have hRl := evsR_len k r0
            have hread := fun w => ref_ReadV (bs (evsR k r0)) w (by rw [size_bs]; omega)
            simp only [lb_bs] at hread
            have s1 : evsL (k + 1) r0 = evsL k r0 ++ [readV (evsR k r0)] := rfl
            have s2 : evsR (k + 1) r0 = restV (evsR k r0) := rfl
            have s3 : evsOk (k + 1) r0 = (evsOk k r0 && readOkV (evsR k r0)) := rfl
            have s4 : readOkV (evsR k r0) = true → (restV (evsR k r0)).length < (evsR k r0).length := restV_less
            have hno := Hnot.out k hlt
            rw [s3, Hev.out, Bool.true_and] at hno
            rw [Hev.out, Bool.true_and] at s3
            generalize readV (evsR k r0) = e at hread s1
            generalize restV (evsR k r0) = R' at hread s2 s4
            generalize readOkV (evsR k r0) = o at hread s3 s4 hno
            generalize evsR k r0 = Rk at hread hRl s4 ⊢
            have hlit := fun w => ev_lit w e
            have hone := evL_one [e]
            have hsL : (evsL (k + 1) r0).flatMap evL = (evsL k r0).flatMap evL ++ [e].flatMap evL := by rw [s1, List.flatMap_append]
            obtain ⟨e1, e2, e3⟩ := e
            unfold evC at hread hlit
            simp only [] at hread hlit
            have S1 := Lib.hid hsL
            have S2 := Lib.hid s2
            have S3 := Lib.hid s3
            have S4 := Lib.hid s4
            have Hno := Lib.hid hno
            have Hlit := Lib.hid hlit
            have Hrg := Lib.hid hrg
            have Hrw := Lib.hid hrw
            clear s1 hsL s2 s3 s4 hno hlit hrg hrw g0 g1 q0 q1 q2
            go_wp2_with fail
            refine (hread _).mono ?_
            rintro y w3 ⟨rfl, hb3⟩
            clear g2
            have hbX := hb3.alloc hb3.size (.cells #[.string e1, .string e2, .float .f64 e3] 28)
            have hx3 := Row.new w3 #[.string e1, .string e2, .float .f64 e3] 28
            obtain ⟨X0, X1, X2, Y0, Y1, Y2⟩ := row_agg hx3
            obtain ⟨-, -, G2, -, -, -⟩ := row_agg (Hrg.out.next hbX)
            rcases o with _ | _
            · obtain ⟨e1', e2'⟩ := Hnone.out (Hno.out rfl)
              obtain ⟨t0, t1, t2, f0, f1, f2⟩ := row_agg (Hrw.out.next hbX)
              have E1 := Lib.hid e1'
              have E2 := Lib.hid e2'
              clear hx3 hread e1' e2' G2
              go_wp2
              refine bodyPost_ret (v := .tuple #[.agg #[.string ⟨#[]⟩, .int .i64 0, .slice none 0 0], .int .i64 10]) (by simp [results, Try.results38, go_sem, t0, t1, t2]) rfl ⟨_, by rw [E1.out], by rw [E2.out]; exact batV_none _, HS.out _ _ _ _ (below_more hbr hbX (Nat.le_refl _))⟩
            have hb4 := hbX.alloc hbX.size (.cells #[.string e1, .string e2, .float .f64 e3] 28)
            have hown4 := own_next Hown.out hb4
            have hr4 := Hlit.out (w3.alloc (.cells #[.string e1, .string e2, .float .f64 e3] 28))
            rw [World.size_alloc] at hr4
            have hrg4 := Hrg.out.next hb4
            have hrw4 := Hrw.out.next hb4
            clear hx3 hread hbX
            go_wp2_with (first
              | (at_builtin; refine wpList_append_reads _ rfl _ _ 38 rfl w2.heap.size 28 i0 _ 3 40 Try.underlying38 hi0 hz0' hz1 hz2 rfl (by decide) _ k _ rfl hown4 _ 1 ([(e1, e2, e3)].flatMap evL) rfl hr4 hone (by unfold maxLen; omega) (by omega) (by have := hb4.size; omega) ?_; intro v5 w5 hown5 hg5; obtain ⟨A5, c5, rfl, -, -, -, -⟩ := Reads.of_own hown5; have hrg5 := hrg4.grown hg5 (fun h => by have := own_block_ge hown4 G h.symm; omega); obtain ⟨g0', g1', g2', q0', q1', q2'⟩ := row_agg hrg5))
            have hwb : w.heap.size ≤ w2.heap.size := by omega
            have hbw4 := hbr.trans (hb4.mono hbr.size)
            have hbw5 := hbw4.grown hg5 hbw4.size (fun k hk => Nat.le_trans hwb (own_block_ge hown4 k hk))
            have hrw5 := hrw4.grown hg5 (fun h => by have := own_block_ge hown4 _ h.symm; omega)
            have hsz5 : w2.heap.size ≤ w5.heap.size := Nat.le_trans hsz (Nat.le_trans hb4.size hg5.size)
            have P1 := Lib.hid (hrg5.set 2 (.slice A5 (k + 1) c5))
            have P2 := Lib.hid (ownsRow_setCell_below hown5 (a := ⟨G, 2, none⟩) hGb (.slice A5 (k + 1) c5))
            have P3 := Lib.hid (hrw5.far (p := ⟨G, 2, none⟩) (by show w.heap.size ≠ G; omega) (.slice A5 (k + 1) c5))
            have P4 := Lib.hid (hbw5.setCell (p := ⟨G, 2, none⟩) (by show w.heap.size ≤ G; omega) (.slice A5 (k + 1) c5))
            clear hbw4 hbw5 hrw5 hrg5 hown5 hb4 hown4 hrg4 hrw4
            go_wp2
            go_roundw
            case rel => exact ⟨k + 1, .slice A5 (k + 1) c5, by omega, rfl, by rw [S2.out], S3.out, P1.out, by rw [S1.out]; exact P2.out, P3.out, P4.out, by simpa using hsz5⟩
            case measure => simp [intOf]; omega
          · obtain rfl : k = m := by omega
            have i1 : ¬ (k : Int) < k := by omega
            have hown := Hown.out
            have hE : Evs wr (.slice A' k c') (evsL k r0) := ⟨by have := Reads.of_own hown; rw [HEl.out]; exact this, HokV.out k (by unfold maxLen; omega)⟩
            have hseen := Hseen.out Hev.out
            have hB : BatV wr (.agg #[.string (bs A), .int .i64 (N : Int), .slice A' k c']) (gotB L) := by
              rw [Hgot.out]
              refine ⟨A', c', by simp only []; rw [HEl.out], by simp only []; rw [HEl.out]; exact hE, by simp only [size_bs]; unfold maxLen; omega, by simp only []; omega, by simp only []; omega⟩
            have hck := refB_Put _ _ wr hB
            have hp0 : checkB (gotB L) ≠ 0 → putB (gotB L) = [] := fun h => by unfold putB; rw [if_neg h]
            have HB := Lib.hid hB
            have Hrw := Lib.hid hrw
            have Hown' := Lib.hid hown
            clear hown hE hB hrw
            generalize checkB (gotB L) = ck at hseen hck hp0
            generalize putB (gotB L) = pt at hseen hck hp0
            have hsz2 : w.heap.size < w2.heap.size := by omega
            by_cases hc0 : ck = 0
            · subst hc0
              by_cases hpt : pt = L
              · rw [decide_eq_true rfl, decide_eq_true hpt] at hseen
                obtain ⟨e1, e2⟩ := Hyes.out hseen
                have E1 := Lib.hid e1
                have E2 := Lib.hid e2
                have hps : bs pt = s := by rw [hpt, Hsl.out]
                rw [hps] at hck
                clear e1 e2 hseen hp0 hpt hps
                go_wp2_with fail
                refine hck.mono ?_
                rintro y w3 ⟨rfl, hb3⟩
                obtain ⟨t0, t1, t2, f0, f1, f2⟩ := row_agg (Hrw.out.next hb3)
                obtain ⟨h0, h1, h2, -, -, -⟩ := row_agg (hrg.next hb3)
                have hown3 := own_next Hown'.out hb3
                have hown6 := ownsRow_setCell_below (ownsRow_setCell_below (ownsRow_setCell_below hown3 (a := ⟨w.heap.size, 0, none⟩) hsz2 (.string (bs A))) (a := ⟨w.heap.size, 1, none⟩) hsz2 (.int .i64 (N : Int))) (a := ⟨w.heap.size, 2, none⟩) hsz2 (.slice A' k c')
                have Hown6 := Lib.hid hown6
                clear hown3 hown6 hck g0 g1 g2 q0 q1 q2
                go_wp2
                refine bodyPost_ret (v := .tuple #[.agg #[.string (bs A), .int .i64 (N : Int), .slice A' k c'], .int .i64 0]) (by simp [results, Try.results38, go_sem, t0, t1, t2]) rfl ⟨_, by rw [E1.out], ?_, HS.out _ _ _ _ (below_more hbr hb3 (Nat.le_refl _))⟩
                rw [E2.out]
                obtain ⟨A2, c2, q1, q2, q3⟩ := HB.out
                refine ⟨A2, c2, q1, ⟨?_, q2.2⟩, q3⟩
                have hv : (Value.slice A2 (gotB L).2.2.length c2) = .slice A' k c' := by
                  have := q1
                  simp only [Value.agg.injEq] at this
                  have h3 := congrArg (fun a : Array Value => a[2]?) this
                  simpa using h3.symm
                rw [hv]
                have := Reads.of_own Hown6.out
                rw [Hgot.out]
                simp only []
                rw [HEl.out]
                exact this
              · rw [decide_eq_true rfl, decide_eq_false hpt] at hseen
                obtain ⟨e1, e2⟩ := Hnone.out hseen
                have E1 := Lib.hid e1
                have E2 := Lib.hid e2
                have hps : bs pt ≠ s := fun h => hpt (by have := congrArg lb h; rw [lb_bs, Hsl.out, lb_bs] at this; exact this)
                have hps' : (pt == s.toList) = false := by rw [beq_eq_false_iff_ne]; intro h; exact hps (by rw [h, toList_lb, bs_lb])
                clear e1 e2 hseen hp0
                go_wp2_with fail
                refine hck.mono ?_
                rintro y w3 ⟨rfl, hb3⟩
                obtain ⟨t0, t1, t2, f0, f1, f2⟩ := row_agg (Hrw.out.next hb3)
                clear hck g0 g1 g2 q0 q1 q2
                go_wp2
                refine bodyPost_ret (v := .tuple #[.agg #[.string ⟨#[]⟩, .int .i64 0, .slice none 0 0], .int .i64 10]) (by simp [results, Try.results38, go_sem, t0, t1, t2]) rfl ⟨_, by rw [E1.out], by rw [E2.out]; exact batV_none _, HS.out _ _ _ _ (below_more hbr hb3 (Nat.le_refl _))⟩
            · rw [decide_eq_false hc0, Bool.false_and] at hseen
              obtain ⟨e1, e2⟩ := Hnone.out hseen
              have E1 := Lib.hid e1
              have E2 := Lib.hid e2
              have hc0' : (ck == 0) = false := by rw [beq_eq_false_iff_ne]; exact hc0
              clear e1 e2 hseen hp0
              go_wp2_with fail
              refine hck.mono ?_
              rintro y w3 ⟨rfl, hb3⟩
              obtain ⟨t0, t1, t2, f0, f1, f2⟩ := row_agg (Hrw.out.next hb3)
              clear hck g0 g1 g2 q0 q1 q2
              go_wp2
              refine bodyPost_ret (v := .tuple #[.agg #[.string ⟨#[]⟩, .int .i64 0, .slice none 0 0], .int .i64 10]) (by simp [results, Try.results38, go_sem, t0, t1, t2]) rfl ⟨_, by rw [E1.out], by rw [E2.out]; exact batV_none _, HS.out _ _ _ _ (below_more hbr hb3 (Nat.le_refl _))⟩
      · obtain ⟨e1, e2⟩ := Hnone.out (seen_front (by rw [hfr, decide_eq_false hN, Bool.and_false]))
        have h9' : ¬ ((readB L).length : Int) < 9 := by omega
        have h8 : (8 : Int) ≤ (readB L).length := by omega
        have hN' : (1073741824 : Int) < (getN ((readB L).take 8) : Nat) := by omega
        rw [ho1] at n1
        rw [e1, e2]
        generalize readA L = A at *
        generalize getN ((readB L).take 8) = N at *
        clear hfr ho1 e1 e2
        generalize readB L = B at *
        go_enter Try.func38, Try.ntmps38
        go_wp2_with fail
        refine (n1 _).mono ?_
        rintro e w1 ⟨rfl, hb1⟩
        go_wp2_with fail
        try rw [Hx.out]
        refine (n3 _).mono ?_
        rintro e w' ⟨rfl, rfl⟩
        have hrow1 := hrow.next hb1
        have r0 := hrow1.cell 0 (by simp)
        have r1 := hrow1.cell 1 (by simp)
        have r2 := hrow1.cell 2 (by simp)
        have f0 := hrow1.frozen 0 (by simp)
        have f1 := hrow1.frozen 1 (by simp)
        have f2 := hrow1.frozen 2 (by simp)
        simp only [List.getElem_cons_zero, List.getElem_cons_succ] at r0 r1 r2
        clear hrow1 n1 n3
        go_wp2
        refine bodyPost_ret (v := .tuple #[.agg #[.string ⟨#[]⟩, .int .i64 0, .slice none 0 0], .int .i64 10]) (by simp [results, Try.results38, go_sem, r0, r1, r2]) rfl ⟨_, rfl, batV_none _, HS.out _ _ _ _ (below_chain hz0 hb1)⟩
    · obtain ⟨e1, e2⟩ := Hnone.out (seen_front (by rw [hfr, decide_eq_false h9, Bool.and_false, Bool.false_and]))
      have h9' : ((readB L).length : Int) < 9 := by omega
      rw [ho1] at n1
      rw [e1, e2]
      generalize readA L = A at *
      clear hfr ho1 e1 e2
      generalize readB L = B at *
      go_enter Try.func38, Try.ntmps38
      go_wp2_with fail
      refine (n1 _).mono ?_
      rintro e w1 ⟨rfl, hb1⟩
      have hrow1 := hrow.next hb1
      have r0 := hrow1.cell 0 (by simp)
      have r1 := hrow1.cell 1 (by simp)
      have r2 := hrow1.cell 2 (by simp)
      have f0 := hrow1.frozen 0 (by simp)
      have f1 := hrow1.frozen 1 (by simp)
      have f2 := hrow1.frozen 2 (by simp)
      simp only [List.getElem_cons_zero, List.getElem_cons_succ] at r0 r1 r2
      clear hrow1 n1 n3
      go_wp2
      refine bodyPost_ret (v := .tuple #[.agg #[.string ⟨#[]⟩, .int .i64 0, .slice none 0 0], .int .i64 10]) (by simp [results, Try.results38, go_sem, r0, r1, r2]) rfl ⟨_, rfl, batV_none _, HS.out _ _ _ _ (below_chain hz0 hb1)⟩
end Go.Proofs.Ytiojapjidgjaoaa
