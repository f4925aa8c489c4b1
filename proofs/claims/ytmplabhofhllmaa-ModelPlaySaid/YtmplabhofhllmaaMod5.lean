/-
  MODEL: Cut, the walk.
-/
import Derived.Test.YtmplabhofhllmaaMod4
namespace Go.Proofs.Ytmplabhofhllmaa
open Go.RowKit
set_option linter.unusedVariables false

def CutNo (w : World) (L : List BatP) (sure : Nat) (l : List Tld) (e : Ending) (w' : World) : Prop := e = .returned (.bool false) ∧ (∀ k, ¬ CutOk L sure l k) ∧ Below w.heap.size w w'
def CutYes (w : World) (base g : Nat) (L : List BatP) (sure : Nat) (l : List Tld) (e : Ending) (w' : World) : Prop :=
  ∃ k v', e = .returned (.bool true) ∧ CutOk L sure l k ∧ ModW w' base g v' (L.take k) k ∧ Keep2 w w' g none
theorem full_take {w : World} {base b g k n c : Nat} {L : List BatP} (hb : base ≤ b) (hr : Row w b 65 (batsC L)) (hg : b ≠ g) (hk : k ≤ L.length) (hm : k ≤ maxLen) (x y : Value) :
    FullB ((w.setCell ⟨g, 1, none⟩ x).setCell ⟨g, 2, none⟩ y) base (.slice (some ⟨b, 0, none⟩) k k) (L.take k).length (batsC (L.take k)) := by
  have e : batsC L = batsC (L.take k) ++ batsC (L.drop k) := by rw [← batsC_append, List.take_append_drop]
  rw [e] at hr
  have hl : (L.take k).length = k := by rw [List.length_take]; omega
  refine ⟨b, by rw [hl], hb, (hr.less.far (p := ⟨g, 1, none⟩) hg x).far (p := ⟨g, 2, none⟩) hg y, length_batsC _, by rw [hl]; exact hm⟩
theorem cut_yes {w wo : World} {base g : Nat} {A : Option Addr} {c : Nat} {L : List BatP} {sure k : Nat} (H : ModW w base g (.slice A L.length c) L sure) (hb : Below w.heap.size w wo) (hk : k ≤ L.length) (hm : L.length ≤ 10000) :
    ModW ((wo.setCell ⟨g, 1, none⟩ (.slice A k k)).setCell ⟨g, 2, none⟩ (.int .i64 (k : Int))) base g (.slice A k k) (L.take k) k ∧ Keep2 w ((wo.setCell ⟨g, 1, none⟩ (.slice A k k)).setCell ⟨g, 2, none⟩ (.int .i64 (k : Int))) g none := by
  have h8 := H.next hb
  have hset : ∀ (q : Value) (b n : Nat) (e : TypeId) (xs : List Value), wo.ownsRow b e 3 q n xs → e ≠ 56 → ((wo.setCell ⟨g, 1, none⟩ (.slice A k k)).setCell ⟨g, 2, none⟩ (.int .i64 (k : Int))).ownsRow b e 3 q n xs := fun q b n e xs hq hne => by
    refine own_keepR hq (fun k9 hk9 => ?_)
    have hn := own_other hq h8.1 hne k9 hk9
    rw [Below.heap_setCell _ _ _ _ hn, Below.heap_setCell _ _ _ _ hn]
  refine ⟨⟨(h8.1.set 1 _).set 2 _, H.2.1, ?_, fun p hp => ?_⟩, Keep2.trans (Keep2.of_below hb g none) (Keep2.trans (Keep2.of_set 1 _ _) (Keep2.of_set 2 _ _))⟩
  · rcases h8.2.2.1 with ho | ⟨b, hv, hbb, hr, -⟩
    · rcases id ho.2 with ⟨hv, hx⟩ | ⟨b, cap, cur, hv, hbb, -⟩
      · obtain ⟨rfl, h0, rfl⟩ := Value.slice.inj hv
        have hk0 : k = 0 := by omega
        subst hk0
        exact .inl (World.ownsRow_nil _ _ _ _)
      · obtain ⟨rfl, -, rfl⟩ := Value.slice.inj hv
        have hr := own_row ho (k := b) (by simp [Value.ownBlock])
        exact .inr (full_take (n := 0) (c := 0) hbb hr (own_other ho h8.1 types_neM.1 b (by simp [Value.ownBlock])) hk (by unfold maxLen; omega) _ _)
    · obtain ⟨rfl, -, rfl⟩ := Value.slice.inj hv
      refine .inr (full_take (n := 0) (c := 0) hbb hr (fun h9 => ?_) hk (by unfold maxLen; omega) _ _)
      subst h9
      exact types_neM.1 (row_types hr h8.1)
  · have := h8.2.2.2 p (List.mem_of_mem_take hp)
    exact ⟨hset _ _ _ _ _ this.1 types_neM.2.1, this.2⟩
set_option maxRecDepth 100000 in
set_option maxHeartbeats 4000000 in
theorem model_Cut {w : World} {base g : Nat} {v : Value} {L : List BatP} {sure : Nat} (h : ModW w base g v L sure) (vl : Value) (l : List Tld) (hl : Tolds w vl l) (hn : l.length ≤ 1000000) (hL : L.length ≤ 10000) :
    Calls Try.prog 18 #[.pointer (some ⟨g, 0, none⟩), vl] w fun e w' => CutNo w L sure l e w' ∨ CutYes w base g L sure l e w' := by
  have HN := model_none_no g _ _ w h.1
  obtain ⟨A, c, rfl, hcv1, hcv2, -⟩ := id h.r.2.1
  obtain ⟨Al, cl, rfl, -⟩ := id hl.1
  have hf : ∀ p ∈ L, fineB p.2 := fun p hp => (h.2.2.2 p hp).2
  obtain ⟨n, hN⟩ : ∃ n, n = L.length := ⟨_, rfl⟩
  have HNN := Lib.hid hN
  have H := Lib.hid h
  have HF := Lib.hid hf
  have HR := Lib.hid h.r
  have HL := Lib.hid hl
  rw [← hN] at hcv1 hL
  clear h hf hl hN
  have hcg : ∀ w', Below w.heap.size w w' → w'.cell? ⟨g, 1, none⟩ = some (.slice A n c) ∧ w'.cell? ⟨g, 2, none⟩ = some (.int .i64 (sure : Nat)) := fun w' hb => by
    have := (HR.out.next hb).cells
    rw [← HNN.out] at this
    exact this.2
  go_enter Try.func18, Try.ntmps18
  go_wp2_with fail
  go_step3
  go_wp2_with fail
  refine HN.mono ?_
  rintro e w' ⟨rfl, rfl⟩
  clear HN
  go_wp2_with fail
  go_step3
  go_wp2_with fail
  go_loopw [5, 6] (fun i r wr => ∃ (k : Nat) (R : List Tld), k ≤ n ∧ i = .int .i64 (k : Int) ∧ l = allL (L.take k) ++ R ∧ Tolds wr r R ∧ Below w.heap.size w wr) (fun i _ _ => n - (intOf i).toNat)
  case atStart => exact ⟨0, l, by omega, rfl, by simp [allL], HL.out, Below.refl _ _⟩
  case round =>
    obtain ⟨k, R, hk, rfl, hsp, hT, hbr⟩ := hrel
    obtain ⟨wo, rfl⟩ : ∃ x, x = wr := ⟨_, rfl⟩
    obtain ⟨Ar, cr, rfl, hcr1, hcr2, -⟩ := id hT.1
    have hRl : R.length ≤ 1000000 := by
      have := congrArg List.length hsp
      rw [List.length_append] at this
      omega
    obtain ⟨z1, z2⟩ := hcg wo hbr
    have HT := Lib.hid hT
    have HBR := Lib.hid hbr
    have HSP := Lib.hid hsp
    have HCG := Lib.hid hcg
    clear hT hbr hsp hcg
    rcases hRR : R with _ | ⟨r0, Rt⟩
    · subst hRR
      have e0 : (([] : List Tld).length : Int) = 0 := rfl
      have hno : ∀ k', CutOk L sure l k' → k' = k := fun k' hc => cut_unique HF.out hc.1 (by rw [← HNN.out]; exact hk) (by rw [hc.2.2, HSP.out, List.append_nil])
      have HNO := Lib.hid hno
      have HK := Lib.hid hk
      clear hno hk HT
      by_cases hsu : k < sure
      · have i1 : (k : Int) < sure := by omega
        go_wp2
        try rw [Exit.noGoto_ret]
        go_ret
        refine .inl ⟨rfl, fun k' hc => ?_, HBR.out⟩
        have := HNO.out k' hc
        have := hc.2.1
        omega
      · have i1 : ¬ (k : Int) < sure := by omega
        have hkc : k ≤ c := by have := HK.out; omega
        have f1 := (HR.out.next HBR.out).1.frozen 1 (by simp)
        have f2 := (HR.out.next HBR.out).1.frozen 2 (by simp)
        have hys := cut_yes (k := k) H.out HBR.out (by rw [← HNN.out]; exact HK.out) (by rw [← HNN.out]; exact hL)
        have HYS := Lib.hid hys
        clear hys
        go_wp2
        try rw [Exit.noGoto_ret]
        go_ret
        refine .inr ⟨k, _, rfl, ⟨by rw [← HNN.out]; exact HK.out, by omega, by rw [HSP.out, List.append_nil]⟩, HYS.out.1, HYS.out.2⟩
    · have hRp : 0 < R.length := by rw [hRR]; simp
      have hRn : R ≠ [] := by rw [hRR]; simp
      have hRi : (0 : Int) < R.length := by omega
      rw [← hRR] at *
      clear hRR
      have HRN := Lib.hid hRn
      clear hRn
      by_cases hlt : k < n
      · have i1 : (k : Int) < n := by omega
        obtain ⟨p, hp⟩ : ∃ p, L[k]? = some p := ⟨_, List.getElem?_eq_getElem (by have := HNN.out; omega)⟩
        have hst := allL_take hp
        have hpm := List.mem_of_getElem? hp
        have hfine := HF.out p hpm
        have hEv := ((HR.out.next HBR.out).2.2 p hpm).1
        obtain ⟨b, off, hA, hlt0, hcell⟩ := (HR.out.next HBR.out).bats (by have := HNN.out; omega)
        subst hA
        obtain ⟨c0, c1, c2⟩ := hcell k p hp wo (Below.refl _ _)
        have hbv := BatV.of hEv hfine
        have hr := hfine.range
        have hno : ∀ q, L[k]? = some q → q = p := fun q hq => by rw [hp] at hq; cases hq; rfl
        have HFine := Lib.hid hfine
        have HNo := Lib.hid hno
        obtain ⟨pv, ps, pf, pl⟩ := p
        dsimp only at hEv
        obtain ⟨A9, c9, rfl, -⟩ := id hEv.1
        dsimp only [batA] at c0 c1 c2 hbv hr
        have ct := model_told _ _ _ hbv (by simp only []; omega) (by simp only []; omega)
        dsimp only at ct
        obtain ⟨D, hD⟩ : ∃ D, D = toldB (ps, pf, pl) := ⟨_, rfl⟩
        have hDl : D.length = pl.length := by rw [hD, toldB_len]
        have hDok : ∀ t ∈ D, okT t := by rw [hD]; exact HFine.out.told
        rw [← hD] at ct
        dsimp only at hst
        rw [← hD] at hst
        have HD := Lib.hid hD
        have HDok := Lib.hid hDok
        have HDl := Lib.hid hDl
        have HST := Lib.hid hst
        clear hp hpm hfine hEv hcell hbv hno hD hDok hst hDl
        go_wp2_with fail
        refine ct.mono ?_
        rintro e w2 ⟨vt, rfl, hot, hb2⟩
        rw [← HDl.out] at hot hr
        clear ct
        obtain ⟨At, ctt, rfl, -⟩ := Reads.of_own hot
        have hTD : Tolds w2 (.slice At D.length ctt) D := ⟨Reads.of_own hot, HDok.out⟩
        have HTD := Lib.hid hTD
        have hbr2 := below_more HBR.out hb2 (Nat.le_refl _)
        have HB2 := Lib.hid hbr2
        have HT2 := Lib.hid (HT.out.next hb2)
        clear hot hTD hbr2
        have hDn : D.length ≤ 8 := hr.2.1
        have hD0 : 0 < D.length := hr.1
        clear hr c0 c1 c2 hlt0 z1 z2
        by_cases hlen : R.length < D.length
        · have i2 : (R.length : Int) < D.length := by omega
          have hno := no_more HSP.out HRN.out (fun q hq t h9 => by
            have := HNo.out q hq
            subst this
            rw [h9, ← HD.out, List.length_append] at hlen
            omega) sure
          have HNO := Lib.hid hno
          clear hno
          go_wp2
          try rw [Exit.noGoto_ret]
          go_ret
          exact .inl ⟨rfl, HNO.out, HB2.out⟩
        · have i2 : ¬ (R.length : Int) < D.length := by omega
          go_wp2_with fail
          go_loopw [39] (fun i wr => ∃ j : Nat, j ≤ D.length ∧ i = .int .i64 (j : Int) ∧ (∀ m, m < j → R[m]? = D[m]?) ∧ Below w2.heap.size w2 wr) (fun i _ => D.length - (intOf i).toNat)
          case atStart => exact ⟨0, by omega, rfl, fun m hm => by omega, Below.refl _ _⟩
          case round =>
            obtain ⟨j, hj, rfl, hall, hbr3⟩ := hrel
            have Hall := Lib.hid hall
            have HB3 := Lib.hid hbr3
            clear hall
            by_cases hjl : j < D.length
            · have i3 : (j : Int) < D.length := by omega
              have i4 : (j : Int) < R.length := by omega
              obtain ⟨x, hx⟩ : ∃ x, D[j]? = some x := ⟨_, List.getElem?_eq_getElem hjl⟩
              obtain ⟨y, hy⟩ : ∃ y, R[j]? = some y := ⟨_, List.getElem?_eq_getElem (by omega)⟩
              obtain ⟨bx, ox, rfl, -, hcx⟩ := HTD.out.later (by omega)
              obtain ⟨by_, oy, rfl, -, hcy⟩ := HT2.out.later (by omega)
              have cx := fun z : Later wr => hcx j x hx z.it (below_chain hbr3 z.ok)
              have cy := fun z : Later wr => hcy j y hy z.it (below_chain hbr3 z.ok)
              have cx0 := fun z => (cx z).1
              have cx1 := fun z => (cx z).2.1
              have cx2 := fun z => (cx z).2.2.1
              have cx3 := fun z => (cx z).2.2.2.1
              have cx4 := fun z => (cx z).2.2.2.2
              have cy0 := fun z => (cy z).1
              have cy1 := fun z => (cy z).2.1
              have cy2 := fun z => (cy z).2.2.1
              have cy3 := fun z => (cy z).2.2.2.1
              have cy4 := fun z => (cy z).2.2.2.2
              have hsm := fun w' => model_same x y w' (HTD.out.2 x (List.mem_of_getElem? hx)) (HT2.out.2 y (List.mem_of_getElem? hy))
              have Hx := Lib.hid hx
              have Hy := Lib.hid hy
              clear cx cy hcx hcy hx hy hbr3
              by_cases hxy : x = y
              · have hd : decide (x = y) = true := by simp [hxy]
                simp only [hd] at hsm
                have HXY := Lib.hid hxy
                obtain ⟨x1, x2, x3, x4, x5⟩ := x
                obtain ⟨y1, y2, y3, y4, y5⟩ := y
                dsimp only [toldA] at hsm cx0 cx1 cx2 cx3 cx4 cy0 cy1 cy2 cy3 cy4
                have HSM := Lib.hid hsm
                clear hsm hd hxy
                go_wp2_with fail
                refine wp_region_below (by kernel_rfl) (by kernel_rfl) ?_
                repeat (first | go_big_quiet_skip | (go_big_quiet_want; go_big_quiet_op; go_big_quiet_on) | (go_big_quiet_want; go_big_quiet_op; apply Exists.intro; refine ⟨fun x => ?_, ?_⟩; (go_at_call 31; exact calls_below x (HSM.out _)); go_big_quiet_on))
                refine wpQuiet_nil ?_
                intro _ hx
                obtain ⟨⟨w4, hb4⟩, rfl⟩ := hx
                go_wp2
                go_roundw
                case rel =>
                  refine ⟨j + 1, by omega, by go_num, fun m hm => ?_, below_chain HB3.out hb4⟩
                  rcases Nat.lt_or_ge m j with h9 | h9
                  · exact Hall.out m h9
                  · obtain rfl : m = j := by omega
                    rw [Hx.out, Hy.out, HXY.out]
                case measure => simp [intOf]; omega
              · have hd : decide (x = y) = false := by simp [hxy]
                simp only [hd] at hsm
                have hno := no_more HSP.out HRN.out (fun q hq t h9 => by
                  have := HNo.out q hq
                  subst this
                  have h8 := Hy.out
                  rw [h9, ← HD.out, List.getElem?_append_left hjl, Hx.out] at h8
                  exact hxy (Option.some.inj h8)) sure
                have HNO := Lib.hid hno
                obtain ⟨x1, x2, x3, x4, x5⟩ := x
                obtain ⟨y1, y2, y3, y4, y5⟩ := y
                dsimp only [toldA] at hsm cx0 cx1 cx2 cx3 cx4 cy0 cy1 cy2 cy3 cy4
                have HSM := Lib.hid hsm
                clear hsm hd hxy hno
                go_wp2_with fail
                refine wp_region_below (by kernel_rfl) (by kernel_rfl) ?_
                repeat (first | go_big_quiet_skip | (go_big_quiet_want; go_big_quiet_op; go_big_quiet_on) | (go_big_quiet_want; go_big_quiet_op; apply Exists.intro; refine ⟨fun x => ?_, ?_⟩; (go_at_call 31; exact calls_below x (HSM.out _)); go_big_quiet_on))
                refine wpQuiet_nil ?_
                intro _ hx
                obtain ⟨⟨w4, hb4⟩, rfl⟩ := hx
                go_wp2
                try rw [Exit.noGoto_ret]
                go_ret
                exact .inl ⟨rfl, HNO.out, below_chain HB2.out (below_chain HB3.out hb4)⟩
            · obtain rfl : j = D.length := by omega
              have hsplit : R = D ++ R.drop D.length := by
                have h1 : R.take D.length = D := by
                  apply List.ext_getElem?
                  intro m
                  rcases Nat.lt_or_ge m D.length with h9 | h9
                  · rw [List.getElem?_take_of_lt h9, Hall.out m h9]
                  · rw [List.getElem?_take_eq_none h9, List.getElem?_eq_none h9]
                have h2 := (List.take_append_drop D.length R).symm
                rw [h1] at h2
                exact h2
              obtain ⟨R2, hR2⟩ : ∃ R2, R2 = R.drop D.length := ⟨_, rfl⟩
              rw [← hR2] at hsplit
              have hTr : Tolds wr (Go.sliced Ar D.length R.length cr 5) R2 := by
                have h9 := HT2.out.next hbr3
                have h8 : Tolds wr (.slice Ar R.length cr) (D ++ R2) := by rw [← hsplit]; exact h9
                exact h8.rest
              have hlR : R.length = D.length + R2.length := by rw [hsplit, List.length_append]
              have hl2 : l = allL (L.take (k + 1)) ++ R2 := by rw [HSP.out, hsplit, HST.out, List.append_assoc]
              have hcr5 : D.length ≤ R.length := by omega
              have HTR := Lib.hid hTr
              have HL2 := Lib.hid hl2
              have HLR := Lib.hid hlR
              have HB4 := Lib.hid (below_chain HB2.out hbr3)
              clear hTr hl2 hsplit hR2 hlR hbr3
              go_wp2
              go_roundw
              case rel =>
                refine ⟨k + 1, R2, by omega, by go_num, HL2.out, ?_, HB4.out⟩
                have := HTR.out
                simpa [Go.sliced] using this
              case measure => simp [intOf]; omega
      · obtain rfl : k = n := by omega
        have hno := no_more HSP.out HRN.out (fun p hp => by rw [List.getElem?_eq_none (by rw [← HNN.out]; exact Nat.le_refl _)] at hp; cases hp) sure
        have HNO := Lib.hid hno
        clear hno
        go_wp2
        try rw [Exit.noGoto_ret]
        go_ret
        exact .inl ⟨rfl, HNO.out, HBR.out⟩
end Go.Proofs.Ytmplabhofhllmaa
