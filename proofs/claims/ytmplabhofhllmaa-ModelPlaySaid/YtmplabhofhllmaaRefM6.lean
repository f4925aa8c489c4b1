/-
  MODEL, the document's: Cut, the walk.
-/
import Derived.Test.YtmplabhofhllmaaRefM5
namespace Go.Proofs.Ytmplabhofhllmaa
open Go.RowKit
set_option linter.unusedVariables false

theorem sumN_over {M : List Nat} {k : Nat} (h : M.length ≤ k) : sumN M (k + 1) = sumN M k := by
  unfold sumN
  rw [List.take_of_length_le (by omega), List.take_of_length_le h]
set_option maxRecDepth 100000 in
set_option maxHeartbeats 8000000 in
theorem refM_Cut {w : World} {base g : Nat} {vL vM : Value} {T : List Tld} {M : List Nat} {sure : Nat} (h : RefW w base g vL vM T M sure) (vl : Value) (l : List Tld) (hl : Tolds w vl l) (hn : l.length ≤ 1000000) (hT : T.length ≤ 1000000) (hM : M.length ≤ 1000000) (hS : ∀ k, sumN M k ≤ T.length) :
    Calls Try.prog 19 #[.pointer (some ⟨g, 0, none⟩), vl] w fun e w' => RefCutNo w T M sure l e w' ∨ RefCutYes w base g T M sure l e w' := by
  obtain ⟨A, c, rfl, hcv1, hcv2, -⟩ := id h.2.2.1.reads
  obtain ⟨A', c', rfl, hcm1, hcm2, -⟩ := id h.2.2.2.1.reads
  obtain ⟨Al, cl, rfl, -⟩ := id hl.1
  obtain ⟨n, hN⟩ : ∃ n, n = M.length := ⟨_, rfl⟩
  obtain ⟨tn, hTn⟩ : ∃ tn, tn = T.length := ⟨_, rfl⟩
  obtain ⟨ln, hLn⟩ : ∃ ln, ln = l.length := ⟨_, rfl⟩
  have HNN := Lib.hid hN
  have HTN := Lib.hid hTn
  have HLN := Lib.hid hLn
  have H := Lib.hid h
  have HL := Lib.hid hl
  have HS := Lib.hid hS
  have hcg : ∀ w', Below w.heap.size w w' → w'.cell? ⟨g, 0, none⟩ = some (.slice A tn c) ∧ w'.cell? ⟨g, 1, none⟩ = some (.slice A' n c') ∧ w'.cell? ⟨g, 2, none⟩ = some (.int .i64 (sure : Nat)) := fun w' hb => by
    have := (h.r.next hb).cells
    rw [← hN, ← hTn] at this
    exact this
  have HCG := Lib.hid hcg
  rw [← hTn] at hT hcv1
  rw [← hN] at hM hcm1
  rw [← hLn] at hn
  rw [show l.length = ln from hLn.symm]
  have hsure := Lib.hid hcg
  clear h hl hN hTn hLn hcg hS hsure
  go_enter Try.func19, Try.ntmps19
  go_wp2_with fail
  go_loopw [5, 6] (fun al i wr => ∃ k : Nat, k ≤ n + 1 ∧ i = .int .i64 (k : Int) ∧ al = .int .i64 ((sumN M k : Nat) : Int) ∧ (∀ k', k' < k → ¬ DocOk T M sure l k') ∧ Below w.heap.size w wr) (fun _ i _ => n + 1 - (intOf i).toNat)
  case atStart => exact ⟨0, by omega, rfl, by rw [sumN_zero]; rfl, fun k' hk' => by omega, Below.refl _ _⟩
  case round =>
    obtain ⟨k, hk, rfl, rfl, hno, hbr⟩ := hrel
    have HNO := Lib.hid hno
    have HBR := Lib.hid hbr
    obtain ⟨z0, z1, z2⟩ := HCG.out _ hbr
    clear hno hbr
    by_cases hlt : k ≤ n
    · have i1 : (k : Int) ≤ n := by omega
      obtain ⟨sm, hsm⟩ : ∃ sm, sm = sumN M k := ⟨_, rfl⟩
      have hsmT : sm ≤ tn := by rw [hsm, HTN.out]; exact HS.out k
      rw [← hsm]
      have HSM := Lib.hid hsm
      clear hsm
      by_cases hcond : sure ≤ k ∧ sm = ln
      · obtain ⟨hc1, hc2⟩ := hcond
        have i2 : (sure : Int) ≤ k := by omega
        have e1 : ((sm : Int) == ln) = true := by rw [beq_iff_eq]; omega
        have e2 : (sm : Int) = ln := by omega
        obtain ⟨wo, rfl⟩ : ∃ x, x = wr := ⟨_, rfl⟩
        have HT2 := Lib.hid (show Tolds wo (.slice A T.length c) T from (H.out.r.next HBR.out).2.1)
        have HL2 := Lib.hid (HL.out.next HBR.out)
        have HC1 := Lib.hid hc1
        have HC2 := Lib.hid hc2
        clear hc1 hc2
        go_wp2_with fail
        go_loopw [7] (fun i wr => ∃ j : Nat, j ≤ ln ∧ i = .int .i64 (j : Int) ∧ (∀ m, m < j → l[m]? = T[m]?) ∧ Below wo.heap.size wo wr) (fun i _ => ln - (intOf i).toNat)
        case atStart => exact ⟨0, by omega, rfl, fun m hm => by omega, Below.refl _ _⟩
        case round =>
          obtain ⟨j, hj, rfl, hall, hbr2⟩ := hrel
          have Hall := Lib.hid hall
          have HB2 := Lib.hid hbr2
          clear hall
          by_cases hjl : j < ln
          · have i3 : (j : Int) < ln := by omega
            have i4 : (j : Int) < tn := by have := HC2.out; omega
            obtain ⟨x, hx⟩ : ∃ x, l[j]? = some x := ⟨_, List.getElem?_eq_getElem (by have := HLN.out; omega)⟩
            obtain ⟨y, hy⟩ : ∃ y, T[j]? = some y := ⟨_, List.getElem?_eq_getElem (by have := HTN.out; omega)⟩
            have hl9 := HL2.out
            have ht9 := HT2.out
            rw [show l.length = ln from HLN.out.symm] at hl9
            rw [show T.length = tn from HTN.out.symm] at ht9
            obtain ⟨bx, ox, rfl, -, hcx⟩ := hl9.later (by have := HLN.out; omega)
            obtain ⟨by_, oy, rfl, -, hcy⟩ := ht9.later (by have := HTN.out; omega)
            have cx := fun z : Later wr => hcx j x hx z.it (below_chain hbr2 z.ok)
            have cy := fun z : Later wr => hcy j y hy z.it (below_chain hbr2 z.ok)
            have cz := fun z : Later wr => (HCG.out z.it (below_chain HBR.out (below_chain hbr2 z.ok))).1
            have cx0 := fun z => (cx z).1
            have cx1 := fun z => (cx z).2.1
            have cx2 := fun z => (cx z).2.2.1
            have cx3 := fun z => (cx z).2.2.2.1
            have cx4 := fun z => (cx z).2.2.2.2
            have cy0 := fun z => (cy z).1
            have cy1 := fun z => (cy z).2.1
            have cy2 := fun z => (cy z).2.2.1
            have cy3 := fun z => (cy z).2.2.2.1
            have cy4 := fun z => (cy z).2.2.2.2
            have hsm := fun w' => refM_Told x y w' (hl9.2 x (List.mem_of_getElem? hx)) (ht9.2 y (List.mem_of_getElem? hy))
            have Hx := Lib.hid hx
            have Hy := Lib.hid hy
            clear cx cy hcx hcy hx hy hbr2 hl9 ht9
            by_cases hxy : x = y
            · have hd : decide (x = y) = true := by simp [hxy]
              simp only [hd] at hsm
              have HXY := Lib.hid hxy
              obtain ⟨x1, x2, x3, x4, x5⟩ := x
              obtain ⟨y1, y2, y3, y4, y5⟩ := y
              dsimp only [toldA] at hsm cx0 cx1 cx2 cx3 cx4 cy0 cy1 cy2 cy3 cy4
              have HSMm := Lib.hid hsm
              clear hsm hd hxy
              go_wp2_with fail
              refine wp_region_below (by kernel_rfl) (by kernel_rfl) ?_
              repeat (first | go_big_quiet_skip | (go_big_quiet_want; go_big_quiet_op; go_big_quiet_on) | (go_big_quiet_want; go_big_quiet_op; apply Exists.intro; refine ⟨fun x => ?_, ?_⟩; (go_at_call 26; exact calls_below x (HSMm.out _)); go_big_quiet_on))
              refine wpQuiet_nil ?_
              intro _ hx
              obtain ⟨⟨w4, hb4⟩, rfl⟩ := hx
              go_wp2
              go_roundw
              case rel =>
                refine ⟨j + 1, by omega, by go_num, fun m hm => ?_, below_chain HB2.out hb4⟩
                rcases Nat.lt_or_ge m j with h9 | h9
                · exact Hall.out m h9
                · obtain rfl : m = j := by omega
                  rw [Hx.out, Hy.out, HXY.out]
              case measure => simp [intOf]; omega
            · have hd : decide (x = y) = false := by simp [hxy]
              simp only [hd] at hsm
              have hno2 : ∀ k', ¬ DocOk T M sure l k' := fun k' hk' => by
                have h8 := Hx.out
                rw [← hk'.2.2.2, List.getElem?_take_of_lt (by rw [← HLN.out]; exact hjl), Hy.out] at h8
                exact hxy (Option.some.inj h8).symm
              have HNO2 := Lib.hid hno2
              obtain ⟨x1, x2, x3, x4, x5⟩ := x
              obtain ⟨y1, y2, y3, y4, y5⟩ := y
              dsimp only [toldA] at hsm cx0 cx1 cx2 cx3 cx4 cy0 cy1 cy2 cy3 cy4
              have HSMm := Lib.hid hsm
              clear hsm hd hxy hno2
              go_wp2_with fail
              refine wp_region_below (by kernel_rfl) (by kernel_rfl) ?_
              repeat (first | go_big_quiet_skip | (go_big_quiet_want; go_big_quiet_op; go_big_quiet_on) | (go_big_quiet_want; go_big_quiet_op; apply Exists.intro; refine ⟨fun x => ?_, ?_⟩; (go_at_call 26; exact calls_below x (HSMm.out _)); go_big_quiet_on))
              refine wpQuiet_nil ?_
              intro _ hx
              obtain ⟨⟨w4, hb4⟩, rfl⟩ := hx
              go_wp2
              go_ret
              exact .inl ⟨rfl, HNO2.out, below_chain HBR.out (below_chain HB2.out hb4)⟩
          · obtain rfl : j = ln := by omega
            have htk : T.take l.length = l := by
              apply List.ext_getElem?
              intro m
              rcases Nat.lt_or_ge m j with h9 | h9
              · rw [List.getElem?_take_of_lt (by rw [← HLN.out]; exact h9), Hall.out m h9]
              · rw [List.getElem?_take_eq_none (by rw [← HLN.out]; exact h9), List.getElem?_eq_none (by rw [← HLN.out]; exact h9)]
            have hbw := below_chain HBR.out hbr2
            have hdoc : DocOk T M sure l k := ⟨by rw [← HNN.out]; exact hlt, HC1.out, by rw [← HSM.out, ← HLN.out]; exact HC2.out, htk⟩
            have hcut := ref_cut (k := k) (a := l.length) H.out hbw (by rw [← HNN.out]; exact hlt) (by rw [← HLN.out, ← HTN.out]; have := HC2.out; omega) (by rw [← HTN.out]; exact hT) (by rw [← HNN.out]; exact hM)
            rw [show l.length = j from HLN.out.symm] at hcut
            have f0 := (H.out.1.next hbw).frozen 0 (by simp)
            have f1 := (H.out.1.next hbw).frozen 1 (by simp)
            have f2 := (H.out.1.next hbw).frozen 2 (by simp)
            obtain ⟨y0, y1, y2⟩ := HCG.out _ hbw
            have hcap1 : sm ≤ c := by omega
            have hcap2 : k ≤ c' := by omega
            have HDOC := Lib.hid hdoc
            have HCUT := Lib.hid hcut
            clear htk hbw hdoc hcut hbr2 z0 z1 z2 hj hjl
            go_wp2_with fail
            go_region
            go_wp2
            go_ret
            refine .inr ⟨k, .slice A j j, .slice A' k k, rfl, HDOC.out, ?_, Keep2.trans HCUT.out.2 (Keep2.of_below (Below.refl _ _).drew _ _)⟩
            rw [show l.length = j from HLN.out.symm]
            exact HCUT.out.1.next (Below.refl _ _).drew
      · have hno : ¬ DocOk T M sure l k := fun hd => hcond ⟨hd.2.1, by rw [HSM.out, hd.2.2.1, HLN.out]⟩
        have HNOK := Lib.hid (show ∀ k', k' < k + 1 → ¬ DocOk T M sure l k' from fun k' hk' => by
          rcases Nat.lt_or_ge k' k with h9 | h9
          · exact HNO.out k' h9
          · obtain rfl : k' = k := by omega
            exact hno)
        have hcc : ¬ (sure : Int) ≤ k ∨ ((sure : Int) ≤ k ∧ ((sm : Int) == ln) = false) := by
          rcases (show ¬ sure ≤ k ∨ (sure ≤ k ∧ sm ≠ ln) from by omega) with h9 | ⟨h9, h8⟩
          · exact .inl (by omega)
          · exact .inr ⟨by omega, by rw [beq_eq_false_iff_ne]; omega⟩
        clear hno hcond
        by_cases hkn : k < n
        · obtain ⟨m, hm⟩ : ∃ m, M[k]? = some m := ⟨_, List.getElem?_eq_getElem (by have := HNN.out; omega)⟩
          have hsu := sumN_succ hm
          have hmb : sumN M (k + 1) ≤ tn := by rw [HTN.out]; exact HS.out (k + 1)
          have hcell : ∃ b off, A' = some ⟨b, off, none⟩ ∧ wr.cell? ⟨b, off + k, none⟩ = some (.int .i64 (m : Int)) := by
            obtain ⟨A9, c9, hv9, -, -, -, hc⟩ := (H.out.r.next HBR.out).2.2
            obtain ⟨rfl, -, rfl⟩ := Value.slice.inj hv9
            obtain ⟨b, off, rfl, -, hcl⟩ := hc (by have := HNN.out; omega)
            refine ⟨b, off, rfl, ?_⟩
            rw [hcl k (by rw [length_natsC]; have := HNN.out; omega)]
            unfold natsC
            rw [List.getElem_map]
            have hk9 := (List.getElem?_eq_some_iff.1 hm).2
            rw [hk9]
          obtain ⟨b9, o9, rfl, c9⟩ := hcell
          have i5 : (k : Int) < n := by omega
          have HSU := Lib.hid hsu
          have q1 : (sm : Int) + m ≤ 1000000 := by rw [hsu, ← HSM.out] at hmb; omega
          clear hm hsu hmb
          rcases hcc with h1 | ⟨h1, h2⟩
          all_goals
            go_wp2
            go_roundw
            case rel => exact ⟨k + 1, by omega, by go_num, by rw [HSU.out, ← HSM.out]; first | rfl | go_num | (congr 1; omega), HNOK.out, HBR.out⟩
            case measure => simp [intOf]; omega
        · have i5 : ¬ (k : Int) < n := by omega
          have HSU := Lib.hid (sumN_over (M := M) (k := k) (by rw [← HNN.out]; omega))
          rcases hcc with h1 | ⟨h1, h2⟩
          all_goals
            go_wp2
            go_roundw
            case rel => exact ⟨k + 1, by omega, by go_num, by rw [HSU.out, ← HSM.out], HNOK.out, HBR.out⟩
            case measure => simp [intOf]; omega
    · obtain rfl : k = n + 1 := by omega
      have i1 : ¬ (((n + 1 : Nat) : Int)) ≤ n := by omega
      go_wp2
      go_ret
      refine .inl ⟨rfl, fun k' hk' => HNO.out k' (by have := hk'.1; have := HNN.out; omega) hk', HBR.out⟩
end Go.Proofs.Ytmplabhofhllmaa
