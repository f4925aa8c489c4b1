/-
  A TABLE's Add.
-/
import Derived.Test.YtikodobglhjoiaaTab
import Derived.Deep.RegionLaw
namespace Go.Proofs.Ytikodobglhjoiaa
open Go.RowKit
set_option linter.unusedVariables false

/-- What Add answers: was it not there? -/
def addB (l : List Ent) (e : Ent) : Bool := !decide (l[posE e l]? = some e)
theorem below_search {l : List Ent} (hs : sortedE l = true) (e : Ent) : ∀ i, (hi : i < l.length) → i < searchE l e.1 e.2.1 → lessE l[i] e = true := by
  intro i hi h
  have := (searchE_cut hs e.1 e.2.1 i hi).2 h
  rw [aheadE_iff] at this
  rw [lessE_iff]
  omega
theorem addB_there {l : List Ent} {e : Ent} {j : Nat} (h : posE e l = j) (he : l[j]? = some e) : addB l e = false := by unfold addB; rw [h]; simp [he]
theorem addB_not {l : List Ent} {e : Ent} {j : Nat} (h : posE e l = j) (he : ¬ l[j]? = some e) : addB l e = true := by unfold addB; rw [h]; simp [he]
theorem tab_stored {wi w2 : World} {base g n j : Nat} {v v2 : Value} {O : List Ent} {e : Ent} (hrow : Row wi g 60 [.bool true, v]) (k2 : Below wi.heap.size wi w2)
    (hown : w2.ownsRow base 25 3 v2 (j + 1 + (n - j)) (entsC (O.take j) ++ entsC [e] ++ entsC (O.drop j))) (hj : j ≤ n) (hn : O.length = n) (hins : insE O e = O.take j ++ e :: O.drop j) (hok : ∀ x ∈ e :: O, okE x) (hs : sortedE O = true) :
    TabV (w2.setCell ⟨g, 1, none⟩ v2) base g v2 (insE O e) := by
  have hne : ∀ k, v2.ownBlock = some k → k ≠ g := by
    intro k hk hkg
    subst hkg
    rcases hown.2 with ⟨rfl, _⟩ | ⟨b, cap, cur, rfl, _, hb, _⟩
    · cases hk
    · obtain ⟨C, fr, hC, _⟩ := hrow.next k2
      simp only [Value.ownBlock, Option.some.injEq] at hk
      subst hk
      rw [hb] at hC
      cases hC
  have hlen : (insE O e).length = j + 1 + (n - j) := by rw [hins]; simp; omega
  have hc : entsC (insE O e) = entsC (O.take j) ++ entsC [e] ++ entsC (O.drop j) := by
    rw [hins, entsC_append, entsC_cons, entsC_cons]; simp [entsC]
  refine ⟨(hrow.next k2).set 1 v2, ?_, fun x hx => hok x ?_, insE_sorted hs e⟩
  · rw [hlen, hc]
    refine ⟨hown.1, ?_⟩
    rcases hown.2 with hn' | ⟨b, cap, cur, rfl, hbs, hb, rest⟩
    · exact .inl hn'
    · refine .inr ⟨b, cap, cur, rfl, hbs, ?_, rest⟩
      rw [Below.heap_setCell w2 ⟨g, 1, none⟩ _ b (hne b rfl)]; exact hb
  · rcases mem_insE.1 hx with rfl | hx
    · exact List.mem_cons_self ..
    · exact List.mem_cons_of_mem _ hx
theorem held_box {wi w : World} {g x1 : Nat} {x2 x3 : Int} (hg : w.heap.size ≠ g) (hlt : w.heap.size < wi.heap.size) (h : wi.cell? ⟨w.heap.size, 0, none⟩ = some (.int .u64 (x1 : Nat)) ∧ wi.cell? ⟨w.heap.size, 1, none⟩ = some (.int .i64 x2) ∧ wi.cell? ⟨w.heap.size, 2, none⟩ = some (.int .i64 x3)) :
    ∀ w', wi.grownBy w' (some g) → wi.grownBy w' (some g) ∧ w'.cell? ⟨w.heap.size, 0, none⟩ = some (.int .u64 (x1 : Nat)) ∧ w'.cell? ⟨w.heap.size, 1, none⟩ = some (.int .i64 x2) ∧ w'.cell? ⟨w.heap.size, 2, none⟩ = some (.int .i64 x3) := fun w' hg' => by
  have hb := hg'.block w.heap.size hlt (fun e => hg (by cases e; rfl))
  have hc : ∀ o, w'.cell? ⟨w.heap.size, o, none⟩ = wi.cell? ⟨w.heap.size, o, none⟩ := fun o => World.cell?_of_block (w := wi) hb
  exact ⟨hg', (hc 0).trans h.1, (hc 1).trans h.2.1, (hc 2).trans h.2.2⟩
theorem own_count {w : World} {base n m size : Nat} {e : TypeId} {v : Value} {xs : List Value} (h : w.ownsRow base e size v n xs) (hm : m = n) : w.ownsRow base e size v m xs := by rw [hm]; exact h
theorem own_form {w : World} {base n size : Nat} {e : TypeId} {v : Value} {xs : List Value} (h : w.ownsRow base e size v n xs) (hn : n ≠ 0) : ∃ b c, v = .slice (some ⟨b, 0, none⟩) n c := by
  rcases h.2 with ⟨_, h0⟩ | ⟨b, cap, cur, hv, _⟩
  · exact absurd h0 hn
  · exact ⟨b, cap, hv⟩
theorem sort_HTj {w : World} {b n cap j : Nat} {O : List Ent} (hO : Ents w (.slice (some ⟨b, 0, none⟩) n cap) O) (hm : O.length = n) (hj : j ≤ n) (w' : World) (hb : Below w.heap.size w w') : Reads w' (.slice (some ⟨b, 0, none⟩) j j) 3 j (entsC (O.take j)) := by
  obtain ⟨A, c, hv, h1, h2, h3, h4⟩ := sort_HT hO hm hj w' hb
  obtain ⟨rfl, -, rfl⟩ := Value.slice.inj hv
  exact ⟨_, j, rfl, Nat.le_refl _, Nat.le_trans h1 h2, h3, h4⟩

theorem lit_lt (w : World) (o : Obj) : w.heap.size < (w.alloc o).heap.size := by simp
set_option maxHeartbeats 4000000 in
theorem tab_Add {w : World} {base g : Nat} {v : Value} {O : List Ent} (h : TabV w base g v O) (e : Ent) (he : okE e) (hn : O.length ≤ 1000000) (hbase : base ≤ w.heap.size) :
    Calls Try.prog 39 #[.pointer (some ⟨g, 0, none⟩), .agg (entC e)] w fun r w' => r = .returned (.bool (addB O e)) ∧ ∃ v', TabV w' base g v' (insE O e) ∧ w.grownBy w' (some g) ∧ (v' = v ∨ ∀ k, v'.ownBlock = some k → w.heap.size ≤ k) := by
  have hz := below_lit w (.cells (entC e) 25)
  have h1 := h.next hz
  have hbox := fun w' hb => ent_box w e 25 w' hb
  have hcell := h1.cells
  have hgb : w.heap.size ≠ g := Nat.ne_of_gt h.1.lt
  obtain ⟨i0, hi0, hz0, hz1, hz2⟩ := info_parts infoEnt
  have hE := h1.ents
  have hs := h.2.2.2
  have hok := h.2.2.1
  have hbs := below_search hs e
  have hsl := searchE_le O e.1 e.2.1
  obtain ⟨⟨A, c, hv, hc1, hc2, -, -⟩, -⟩ := id hE
  unfold maxLen at hc2
  obtain ⟨n, hN⟩ : ∃ n, n = O.length := ⟨_, rfl⟩
  rw [← hN] at hn hv hc1
  have hown := h1.2.1
  rw [← hN] at hown
  subst hv
  have HN := Lib.hid hN.symm
  have HE := Lib.hid hE
  have HR := Lib.hid h1.1
  have HC := Lib.hid hcell
  have Hso := Lib.hid hs
  have HOk := Lib.hid (show ∀ x ∈ e :: O, okE x from fun x hx => (List.mem_cons.1 hx).elim (fun h => h ▸ he) (hok x))
  have Hown := Lib.hid hown
  have Hbs := Lib.hid hbs
  have H0 := Lib.hid h
  obtain ⟨x1, x2, x3⟩ := e
  have oe := he
  have HB := Lib.hid hbox
  have ca0 := fun x : Later (w.alloc (.cells (entC (x1, x2, x3)) 25)) => (HC.out x.it x.ok).2
  have ca1 := fun x : Later (w.alloc (.cells (entC (x1, x2, x3)) 25)) => (HB.out x.it x.ok).1
  have ca2 := fun x : Later (w.alloc (.cells (entC (x1, x2, x3)) 25)) => (HB.out x.it x.ok).2.1
  clear hok hbs hcell hbox hE hs h hown hN
  go_enter Try.func39, Try.ntmps39
  go_wp2_with fail
  refine (tab_none_no h1).mono ?_
  rintro e' w' ⟨rfl, rfl⟩
  clear h1
  go_wp2_with fail
  refine wp_region_below (by kernel_rfl) (by kernel_rfl) ?_
  repeat (first | go_big_quiet_skip | (go_big_quiet_want; go_big_quiet_op; go_big_quiet_on) | (go_big_quiet_want; go_big_quiet_op; apply Exists.intro; refine ⟨fun x => ?_, ?_⟩; (first | (go_at_call 19; exact calls_below x (entries_Search _ O x1 x2 _ (by have := HE.out.next x.ok; exact this) Hso.out oe.1 oe.2.1))); go_big_quiet_on))
  refine wpQuiet_nil ?_
  intro _ hx
  obtain ⟨⟨w2, hb2⟩, rfl⟩ := hx
  clear ca0 ca1 ca2
  rename_i w2
  have hsn : searchE O x1 x2 ≤ n := by rw [← HN.out]; exact hsl
  have Hbs2 := Lib.hid (show ∀ i, (hi : i < O.length) → i < searchE O x1 x2 → lessE O[i] (x1, x2, x3) = true from Hbs.out)
  generalize searchE O x1 x2 = s at hsn Hbs2 ⊢
  clear hsl Hbs
  go_wp2_with fail
  go_loopw [5] (fun i wr => ∃ j : Nat, j ≤ n ∧ i = .int .i64 (j : Int) ∧ (∀ i, (hi : i < O.length) → i < j → lessE O[i] (x1, x2, x3) = true) ∧ Below (w.alloc (.cells (entC (x1, x2, x3)) 25)).heap.size (w.alloc (.cells (entC (x1, x2, x3)) 25)) wr) (fun i _ => n - (intOf i).toNat)
  case atStart => exact ⟨s, hsn, rfl, Hbs2.out, hb2⟩
  case round =>
    obtain ⟨j, hj, rfl, hpos, hbr⟩ := hrel
    have Hpos := Lib.hid hpos
    clear hpos Hbs2 hb2 hsn
    have cc0 := fun x : Later wr => (HC.out x.it (below_chain hbr x.ok)).2
    have cc1 := fun x : Later wr => (HB.out x.it (below_chain hbr x.ok)).1
    have cc2 := fun x : Later wr => (HB.out x.it (below_chain hbr x.ok)).2.1
    have cc3 := fun x : Later wr => (HB.out x.it (below_chain hbr x.ok)).2.2
    by_cases hjn : j < n
    · obtain ⟨y, hy⟩ : ∃ y, O[j]? = some y := ⟨_, List.getElem?_eq_getElem (by have := HN.out; omega)⟩
      have oy := HE.out.ok hy
      obtain ⟨b, off, rfl, -, hoc⟩ := HE.out.later (by have := HN.out; omega)
      have hcy := hoc j y hy
      have dd0 := fun x : Later wr => (hcy x.it (below_chain hbr x.ok)).1
      have dd1 := fun x : Later wr => (hcy x.it (below_chain hbr x.ok)).2.1
      have dd2 := fun x : Later wr => (hcy x.it (below_chain hbr x.ok)).2.2
      have j1 : (j : Int) < n := by omega
      have E1 := Lib.hid (List.getElem?_eq_some_iff.1 hy)
      have Hy := Lib.hid hy
      have Hcy := Lib.hid hcy
      clear hoc hy hcy
      go_wp2_with fail
      refine wp_region_below (by kernel_rfl) (by kernel_rfl) ?_
      repeat (first | go_big_quiet_skip | (go_big_quiet_want; go_big_quiet_op; go_big_quiet_on) | (go_big_quiet_want; go_big_quiet_op; apply Exists.intro; refine ⟨fun x => ?_, ?_⟩; (first | (go_at_call 30; exact calls_below x (entries_Less y (x1, x2, x3) _ oy oe))); go_big_quiet_on))
      refine wpQuiet_nil ?_
      intro _ hx
      obtain ⟨⟨w1, hb1⟩, rfl⟩ := hx
      rename_i wj
      rcases hls : lessE y (x1, x2, x3) with _ | _
      · have hpe : posE (x1, x2, x3) O = j := posE_eq (by have := HN.out; omega) Hpos.out (fun hk => by rw [E1.out.2]; exact hls)
        obtain ⟨y1, y2, y3⟩ := y
        obtain ⟨c0, c1, c2⟩ := HB.out wj (below_chain hbr hb1)
        obtain ⟨-, e1⟩ := HC.out wj (below_chain hbr hb1)
        obtain ⟨d0, d1, d2⟩ := Hcy.out wj (below_chain hbr hb1)
        simp only [] at d0 d1 d2 c0 c1 c2
        clear cc0 cc1 cc2 cc3 dd0 dd1 dd2
        by_cases heq : y1 = x1 ∧ y2 = x2 ∧ y3 = x3
        · obtain ⟨rfl, rfl, rfl⟩ := heq
          have hst2 := insE_there hpe Hy.out
          have hadd := addB_there hpe Hy.out
          have kf := below_chain hz (below_chain hbr hb1)
          go_wp2_with fail
          go_quiet (fail)
          go_wp2
          go_ret
          refine ⟨by rw [hadd]; rfl, _, ?_, Below.to_grown (below_drewN kf _) _, .inl rfl⟩
          rw [hst2]
          exact H0.out.next (below_drewN kf _)
        · have hne : (decide (y1 = x1) && (decide (y2 = x2) && decide (y3 = x3))) = false := by
            simp; omega
          have hnot : ¬ O[j]? = some (x1, x2, x3) := by rw [Hy.out]; intro h; exact heq (by simpa using h)
          have hins := insE_at hpe hnot
          have hadd := addB_not hpe hnot
          have s1 : (j : Int) ≤ c := by omega
          have s2 : ¬ c = j := by omega
          obtain ⟨rfl⟩ : off = 0 := by
            rcases Hown.out.2 with ⟨h', _⟩ | ⟨g', cap', cur, h', _⟩
            · simp at h'
            · simp only [Value.slice.injEq, Option.some.injEq, Addr.mk.injEq] at h'
              exact h'.1.2.1
          simp only [Nat.zero_add] at d0 d1 d2
          go_wp2_with fail
          go_quiet (fail)
          go_wp2_with fail
          clear c0 c1 c2 d0 d1 d2 e1
          have kwi := below_drewN hb1 nq
          generalize wj.drewN nq = wi at kwi ⊢
          clear hb1
          have hws : w.heap.size ≤ wi.heap.size := Nat.le_trans (below_lit w _).size (below_chain hbr kwi).size
          have hw : Below w.heap.size w wi := below_chain hz (below_chain hbr kwi)
          have hE := HE.out.next (below_chain hbr kwi)
          have Hrow := Lib.hid (HR.out.next (below_chain hbr kwi))
          have HG := Lib.hid (fun w' (hb : Below wi.heap.size wi w') => HC.out w' (below_chain (below_chain hbr kwi) hb))
          have HF := Lib.hid (fun w' (hb : Below wi.heap.size wi w') => (Hrow.out.next hb).frozen 1 (by simp))
          obtain ⟨g0, g1⟩ := HG.out wi (Below.refl _ _)
          obtain ⟨t0, t1⟩ := HG.out wi.drew (Below.refl _ _).drew
          have HS := Lib.hid (held_box (wi := wi) hgb (Nat.lt_of_lt_of_le (lit_lt w _) (below_chain hbr kwi).size) (HB.out wi (below_chain hbr kwi)))
          have D0 : Below wi.heap.size wi wi.drew := (Below.refl _ _).drew
          have D1 : Below wi.heap.size wi (wi.alloc (.cells #[.int .u64 (x1 : Nat), .int .i64 x2, .int .i64 x3] 25)) := below_lit wi _
          obtain ⟨l0, l1⟩ := HG.out _ D1
          obtain ⟨-, x0, x1', x2'⟩ := HS.out wi.drew (Below.to_grown D0 _)
          have HT := Lib.hid (show ∀ w', Below wi.heap.size wi w' → Reads w' (.slice (some ⟨b, 0, none⟩) j j) 3 j (entsC (O.take j)) from fun w' hb => sort_HTj hE HN.out hj w' hb)
          have HD := Lib.hid (show ∀ w', Below wi.heap.size wi w' → Reads w' (.slice (some ⟨b, j * 3, none⟩) (n - j) (c - j)) 3 (n - j) (entsC (O.drop j)) from fun w' hb => sort_HD hE HN.out hjn w' hb)
          go_region_law (first | (refine step_append_reads rfl _ _ 22 rfl wi.heap.size 25 i0 _ 3 24 Try.underlying22 hi0 hz0 hz1 hz2 rfl (by decide) v1 _ _ rfl (own_base hown1 (Below.size (B := wi.heap.size) (w := wi) (by first | exact D0.alloc D0.size _ | exact D1.drew))) _ (n - j) _ rfl (HD.out _ k1) (entsC_one _) (by unfold maxLen; omega) (by omega) k1.size ?_; intro v2 w2 hown2 hg2; have k2 : Below wi.heap.size wi w2 := k1.grown hg2 k1.size (own_block_ge (own_base hown1 (Below.size (B := wi.heap.size) (w := wi) (by first | exact D0.alloc D0.size _ | exact D1.drew)))); obtain ⟨g0', g1'⟩ := HG.out w2 k2; have f1' := HF.out w2 k2; obtain ⟨N2, hN2⟩ : ∃ N2, N2 = j + 1 + (n - j) := ⟨_, rfl⟩; have HN2 := Lib.hid hN2; have hown2' := own_count hown2 hN2; clear hN2 hown2; obtain ⟨b2, cap2, rfl⟩ := own_form hown2' (by have := HN2.out; omega)) | (refine step_append_full rfl _ _ 22 rfl 25 i0 _ 3 24 Try.underlying22 hi0 hz0 hz1 hz2 rfl _ j _ rfl (HT.out _ (by first | exact D0.alloc D0.size _ | exact D1.drew)) (entsC_one _) _ 1 (entsC [(x1, x2, x3)]) rfl (by first | exact (ents_lit _ _ oe).1 | exact Reads.drew' (ents_lit _ _ oe).1) (entsC_one _) (by unfold maxLen; omega) (by omega) ?_; intro v1 w1 hr1 ho1 hg1; have hown1 := ho1 (by omega); have k1 : Below wi.heap.size wi w1 := Below.grown (w := _) (by first | exact D0.alloc D0.size _ | exact D1.drew) hg1 (Below.size (B := wi.heap.size) (w := wi) (by first | exact D0.alloc D0.size _ | exact D1.drew)) (by intro k hk; cases hk); obtain ⟨g0, g1⟩ := HG.out w1 k1))
          all_goals
            go_wp2
            go_ret
            refine ⟨?_, .slice (some ⟨b2, 0, none⟩) N2 cap2, ?_, ?_, ?_⟩
            · rw [hadd]; rfl
            · exact tab_stored Hrow.out k2 (own_base (own_count hown2' HN2.out.symm) (Nat.le_trans hbase hws)) hj HN.out hins (HOk.out) Hso.out
            · exact grown_chain hw (grown_chain k2 (grown_set _ ⟨g, 1, none⟩ _))
            · exact .inr fun k hk => Nat.le_trans hws (own_block_ge hown2' k hk)
      · go_wp2
        go_roundw
        case rel =>
          refine ⟨j + 1, by omega, by go_num, fun i hi hij => ?_, below_chain hbr hb1⟩
          rcases Nat.lt_or_ge i j with h7 | h7
          · exact Hpos.out i hi h7
          · obtain rfl : i = j := by omega
            rw [E1.out.2]; exact hls
        case measure => simp [intOf]; omega
    · obtain rfl : j = n := by omega
      have hpe : posE (x1, x2, x3) O = j := posE_eq (by have := HN.out; omega) Hpos.out (fun hk => absurd hk (by have := HN.out; omega))
      have hnot : ¬ O[j]? = some (x1, x2, x3) := by rw [List.getElem?_eq_none (by have := HN.out; omega)]; simp
      have hins := insE_at hpe hnot
      have hadd := addB_not hpe hnot
      have hdr : O.drop j = [] := List.drop_eq_nil_of_le (by have := HN.out; omega)
      have hdr2 : entsC (O.drop j) = [] := by rw [hdr]; rfl
      have Hdr := Lib.hid hdr2
      clear hdr hdr2
      have hO2 := HE.out
      rcases Hown.out.2 with ⟨hv, hn0⟩ | ⟨b, cap, cur, hv, -⟩
      · obtain ⟨rfl, rfl, rfl⟩ := Value.slice.inj hv
        have Hv := Lib.hid hv
        clear hv hO2
        go_wp2_with fail
        refine wp_region_below (by kernel_rfl) (by kernel_rfl) ?_
        repeat (first | go_big_quiet_skip | (go_big_quiet_want; go_big_quiet_op; go_big_quiet_on) | (go_big_quiet_want; go_big_quiet_op; apply Exists.intro; refine ⟨fun x => ?_, ?_⟩; (fail); go_big_quiet_on))
        refine wpQuiet_nil ?_
        intro _ hx
        obtain ⟨⟨w1, hb1⟩, rfl⟩ := hx
        rename_i wj
        obtain ⟨-, e1⟩ := HC.out wj (below_chain hbr hb1)
        clear cc0 cc1 cc2 cc3
        go_wp2_with fail
        go_quiet (fail)
        go_wp2_with fail
        clear e1
        have kwi := below_drewN hb1 nq
        generalize wj.drewN nq = wi at kwi ⊢
        clear hb1
        have hws : w.heap.size ≤ wi.heap.size := Nat.le_trans (below_lit w _).size (below_chain hbr kwi).size
        have hw : Below w.heap.size w wi := below_chain hz (below_chain hbr kwi)
        have hE := HE.out.next (below_chain hbr kwi)
        have Hrow := Lib.hid (HR.out.next (below_chain hbr kwi))
        have HG := Lib.hid (fun w' (hb : Below wi.heap.size wi w') => HC.out w' (below_chain (below_chain hbr kwi) hb))
        have HF := Lib.hid (fun w' (hb : Below wi.heap.size wi w') => (Hrow.out.next hb).frozen 1 (by simp))
        obtain ⟨g0, g1⟩ := HG.out wi (Below.refl _ _)
        obtain ⟨t0, t1⟩ := HG.out wi.drew (Below.refl _ _).drew
        have HS := Lib.hid (held_box (wi := wi) hgb (Nat.lt_of_lt_of_le (lit_lt w _) (below_chain hbr kwi).size) (HB.out wi (below_chain hbr kwi)))
        have D0 : Below wi.heap.size wi wi.drew := (Below.refl _ _).drew
        have D1 : Below wi.heap.size wi (wi.alloc (.cells #[.int .u64 (x1 : Nat), .int .i64 x2, .int .i64 x3] 25)) := below_lit wi _
        obtain ⟨l0, l1⟩ := HG.out _ D1
        obtain ⟨-, x0, x1', x2'⟩ := HS.out wi.drew (Below.to_grown D0 _)
        have HT := Lib.hid (show ∀ w', Below wi.heap.size wi w' → Reads w' (.slice none 0 0) 3 0 (entsC (O.take 0)) from fun w' hb => by rw [show O.take 0 = [] from rfl]; exact Reads.nil _ _)
        have HD := Lib.hid (show ∀ w', Below wi.heap.size wi w' → Reads w' (.slice none 0 0) 3 0 (entsC (O.drop 0)) from fun w' hb => by rw [Hdr.out]; exact Reads.nil _ _)
        go_region_law (first | (refine step_append_reads rfl _ _ 22 rfl wi.heap.size 25 i0 _ 3 24 Try.underlying22 hi0 hz0 hz1 hz2 rfl (by decide) v1 _ _ rfl (own_base hown1 (Below.size (B := wi.heap.size) (w := wi) (by first | exact D0.alloc D0.size _ | exact D1.drew))) _ 0 _ rfl (HD.out _ k1) (entsC_one _) (by unfold maxLen; omega) (by omega) k1.size ?_; intro v2 w2 hown2 hg2; have k2 : Below wi.heap.size wi w2 := k1.grown hg2 k1.size (own_block_ge (own_base hown1 (Below.size (B := wi.heap.size) (w := wi) (by first | exact D0.alloc D0.size _ | exact D1.drew)))); obtain ⟨g0', g1'⟩ := HG.out w2 k2; have f1' := HF.out w2 k2; obtain ⟨N2, hN2⟩ : ∃ N2, N2 = 0 + 1 + 0 := ⟨_, rfl⟩; have HN2 := Lib.hid hN2; have hown2' := own_count hown2 hN2; clear hN2 hown2; obtain ⟨b2, cap2, rfl⟩ := own_form hown2' (by have := HN2.out; omega)) | (refine step_append_full rfl _ _ 22 rfl 25 i0 _ 3 24 Try.underlying22 hi0 hz0 hz1 hz2 rfl _ 0 _ rfl (HT.out _ (by first | exact D0.alloc D0.size _ | exact D1.drew)) (entsC_one _) _ 1 (entsC [(x1, x2, x3)]) rfl (by first | exact (ents_lit _ _ oe).1 | exact Reads.drew' (ents_lit _ _ oe).1) (entsC_one _) (by unfold maxLen; omega) (by omega) ?_; intro v1 w1 hr1 ho1 hg1; have hown1 := ho1 (by omega); have k1 : Below wi.heap.size wi w1 := Below.grown (w := _) (by first | exact D0.alloc D0.size _ | exact D1.drew) hg1 (Below.size (B := wi.heap.size) (w := wi) (by first | exact D0.alloc D0.size _ | exact D1.drew)) (by intro k hk; cases hk); obtain ⟨g0, g1⟩ := HG.out w1 k1))
        all_goals
          go_wp2
          go_ret
          refine ⟨?_, .slice (some ⟨b2, 0, none⟩) N2 cap2, ?_, ?_, ?_⟩
          · rw [hadd]; rfl
          · exact tab_stored Hrow.out k2 (own_base (own_count hown2' HN2.out.symm) (Nat.le_trans hbase hws)) hj HN.out hins (HOk.out) Hso.out
          · exact grown_chain hw (grown_chain k2 (grown_set _ ⟨g, 1, none⟩ _))
          · exact .inr fun k hk => Nat.le_trans hws (own_block_ge hown2' k hk)
      · obtain ⟨rfl, -, rfl⟩ := Value.slice.inj hv
        clear hv hO2
        by_cases s2 : c = j
        · go_wp2_with fail
          refine wp_region_below (by kernel_rfl) (by kernel_rfl) ?_
          repeat (first | go_big_quiet_skip | (go_big_quiet_want; go_big_quiet_op; go_big_quiet_on) | (go_big_quiet_want; go_big_quiet_op; apply Exists.intro; refine ⟨fun x => ?_, ?_⟩; (fail); go_big_quiet_on))
          refine wpQuiet_nil ?_
          intro _ hx
          obtain ⟨⟨w1, hb1⟩, rfl⟩ := hx
          rename_i wj
          obtain ⟨-, e1⟩ := HC.out wj (below_chain hbr hb1)
          clear cc0 cc1 cc2 cc3
          go_wp2_with fail
          go_quiet (fail)
          go_wp2_with fail
          clear e1
          have kwi := below_drewN hb1 nq
          generalize wj.drewN nq = wi at kwi ⊢
          clear hb1
          have hws : w.heap.size ≤ wi.heap.size := Nat.le_trans (below_lit w _).size (below_chain hbr kwi).size
          have hw : Below w.heap.size w wi := below_chain hz (below_chain hbr kwi)
          have hE := HE.out.next (below_chain hbr kwi)
          have Hrow := Lib.hid (HR.out.next (below_chain hbr kwi))
          have HG := Lib.hid (fun w' (hb : Below wi.heap.size wi w') => HC.out w' (below_chain (below_chain hbr kwi) hb))
          have HF := Lib.hid (fun w' (hb : Below wi.heap.size wi w') => (Hrow.out.next hb).frozen 1 (by simp))
          obtain ⟨g0, g1⟩ := HG.out wi (Below.refl _ _)
          obtain ⟨t0, t1⟩ := HG.out wi.drew (Below.refl _ _).drew
          have HS := Lib.hid (held_box (wi := wi) hgb (Nat.lt_of_lt_of_le (lit_lt w _) (below_chain hbr kwi).size) (HB.out wi (below_chain hbr kwi)))
          have D0 : Below wi.heap.size wi wi.drew := (Below.refl _ _).drew
          have D1 : Below wi.heap.size wi (wi.alloc (.cells #[.int .u64 (x1 : Nat), .int .i64 x2, .int .i64 x3] 25)) := below_lit wi _
          obtain ⟨l0, l1⟩ := HG.out _ D1
          obtain ⟨-, x0, x1', x2'⟩ := HS.out wi.drew (Below.to_grown D0 _)
          have HT := Lib.hid (show ∀ w', Below wi.heap.size wi w' → Reads w' (.slice (some ⟨b, 0, none⟩) j j) 3 j (entsC (O.take j)) from fun w' hb => sort_HTj hE HN.out hj w' hb)
          have HD := Lib.hid (show ∀ w', Below wi.heap.size wi w' → Reads w' (.slice (some ⟨b, 0, none⟩) 0 0) 3 (j - j) (entsC (O.drop j)) from fun w' hb => by rw [Nat.sub_self, Hdr.out]; exact reads_none _ _ _ (by unfold maxLen; omega))
          go_region_law (first | (refine step_append_reads rfl _ _ 22 rfl wi.heap.size 25 i0 _ 3 24 Try.underlying22 hi0 hz0 hz1 hz2 rfl (by decide) v1 _ _ rfl (own_base hown1 (Below.size (B := wi.heap.size) (w := wi) (by first | exact D0.alloc D0.size _ | exact D1.drew))) _ (j - j) _ rfl (HD.out _ k1) (entsC_one _) (by unfold maxLen; omega) (by omega) k1.size ?_; intro v2 w2 hown2 hg2; have k2 : Below wi.heap.size wi w2 := k1.grown hg2 k1.size (own_block_ge (own_base hown1 (Below.size (B := wi.heap.size) (w := wi) (by first | exact D0.alloc D0.size _ | exact D1.drew)))); obtain ⟨g0', g1'⟩ := HG.out w2 k2; have f1' := HF.out w2 k2; obtain ⟨N2, hN2⟩ : ∃ N2, N2 = j + 1 + (j - j) := ⟨_, rfl⟩; have HN2 := Lib.hid hN2; have hown2' := own_count hown2 hN2; clear hN2 hown2; obtain ⟨b2, cap2, rfl⟩ := own_form hown2' (by have := HN2.out; omega)) | (refine step_append_full rfl _ _ 22 rfl 25 i0 _ 3 24 Try.underlying22 hi0 hz0 hz1 hz2 rfl _ j _ rfl (HT.out _ (by first | exact D0.alloc D0.size _ | exact D1.drew)) (entsC_one _) _ 1 (entsC [(x1, x2, x3)]) rfl (by first | exact (ents_lit _ _ oe).1 | exact Reads.drew' (ents_lit _ _ oe).1) (entsC_one _) (by unfold maxLen; omega) (by omega) ?_; intro v1 w1 hr1 ho1 hg1; have hown1 := ho1 (by omega); have k1 : Below wi.heap.size wi w1 := Below.grown (w := _) (by first | exact D0.alloc D0.size _ | exact D1.drew) hg1 (Below.size (B := wi.heap.size) (w := wi) (by first | exact D0.alloc D0.size _ | exact D1.drew)) (by intro k hk; cases hk); obtain ⟨g0, g1⟩ := HG.out w1 k1))
          all_goals
            go_wp2
            go_ret
            refine ⟨?_, .slice (some ⟨b2, 0, none⟩) N2 cap2, ?_, ?_, ?_⟩
            · rw [hadd]; rfl
            · exact tab_stored Hrow.out k2 (own_base (own_count hown2' HN2.out.symm) (Nat.le_trans hbase hws)) hj HN.out hins (HOk.out) Hso.out
            · exact grown_chain hw (grown_chain k2 (grown_set _ ⟨g, 1, none⟩ _))
            · exact .inr fun k hk => Nat.le_trans hws (own_block_ge hown2' k hk)
        · have s1 : (j : Int) ≤ c := by omega
          go_wp2_with fail
          refine wp_region_below (by kernel_rfl) (by kernel_rfl) ?_
          repeat (first | go_big_quiet_skip | (go_big_quiet_want; go_big_quiet_op; go_big_quiet_on) | (go_big_quiet_want; go_big_quiet_op; apply Exists.intro; refine ⟨fun x => ?_, ?_⟩; (fail); go_big_quiet_on))
          refine wpQuiet_nil ?_
          intro _ hx
          obtain ⟨⟨w1, hb1⟩, rfl⟩ := hx
          rename_i wj
          obtain ⟨-, e1⟩ := HC.out wj (below_chain hbr hb1)
          clear cc0 cc1 cc2 cc3
          go_wp2_with fail
          go_quiet (fail)
          go_wp2_with fail
          clear e1
          have kwi := below_drewN hb1 nq
          generalize wj.drewN nq = wi at kwi ⊢
          clear hb1
          have hws : w.heap.size ≤ wi.heap.size := Nat.le_trans (below_lit w _).size (below_chain hbr kwi).size
          have hw : Below w.heap.size w wi := below_chain hz (below_chain hbr kwi)
          have hE := HE.out.next (below_chain hbr kwi)
          have Hrow := Lib.hid (HR.out.next (below_chain hbr kwi))
          have HG := Lib.hid (fun w' (hb : Below wi.heap.size wi w') => HC.out w' (below_chain (below_chain hbr kwi) hb))
          have HF := Lib.hid (fun w' (hb : Below wi.heap.size wi w') => (Hrow.out.next hb).frozen 1 (by simp))
          obtain ⟨g0, g1⟩ := HG.out wi (Below.refl _ _)
          obtain ⟨t0, t1⟩ := HG.out wi.drew (Below.refl _ _).drew
          have HS := Lib.hid (held_box (wi := wi) hgb (Nat.lt_of_lt_of_le (lit_lt w _) (below_chain hbr kwi).size) (HB.out wi (below_chain hbr kwi)))
          have D0 : Below wi.heap.size wi wi.drew := (Below.refl _ _).drew
          have D1 : Below wi.heap.size wi (wi.alloc (.cells #[.int .u64 (x1 : Nat), .int .i64 x2, .int .i64 x3] 25)) := below_lit wi _
          obtain ⟨l0, l1⟩ := HG.out _ D1
          obtain ⟨-, x0, x1', x2'⟩ := HS.out wi.drew (Below.to_grown D0 _)
          have HT := Lib.hid (show ∀ w', Below wi.heap.size wi w' → Reads w' (.slice (some ⟨b, 0, none⟩) j j) 3 j (entsC (O.take j)) from fun w' hb => sort_HTj hE HN.out hj w' hb)
          have HD := Lib.hid (show ∀ w', Below wi.heap.size wi w' → Reads w' (.slice (some ⟨b, j * 3, none⟩) 0 (c - j)) 3 (j - j) (entsC (O.drop j)) from fun w' hb => by rw [Nat.sub_self, Hdr.out]; exact reads_none _ _ _ (by unfold maxLen; omega))
          go_region_law (first | (refine step_append_reads rfl _ _ 22 rfl wi.heap.size 25 i0 _ 3 24 Try.underlying22 hi0 hz0 hz1 hz2 rfl (by decide) v1 _ _ rfl (own_base hown1 (Below.size (B := wi.heap.size) (w := wi) (by first | exact D0.alloc D0.size _ | exact D1.drew))) _ (j - j) _ rfl (HD.out _ k1) (entsC_one _) (by unfold maxLen; omega) (by omega) k1.size ?_; intro v2 w2 hown2 hg2; have k2 : Below wi.heap.size wi w2 := k1.grown hg2 k1.size (own_block_ge (own_base hown1 (Below.size (B := wi.heap.size) (w := wi) (by first | exact D0.alloc D0.size _ | exact D1.drew)))); obtain ⟨g0', g1'⟩ := HG.out w2 k2; have f1' := HF.out w2 k2; obtain ⟨N2, hN2⟩ : ∃ N2, N2 = j + 1 + (j - j) := ⟨_, rfl⟩; have HN2 := Lib.hid hN2; have hown2' := own_count hown2 hN2; clear hN2 hown2; obtain ⟨b2, cap2, rfl⟩ := own_form hown2' (by have := HN2.out; omega)) | (refine step_append_full rfl _ _ 22 rfl 25 i0 _ 3 24 Try.underlying22 hi0 hz0 hz1 hz2 rfl _ j _ rfl (HT.out _ (by first | exact D0.alloc D0.size _ | exact D1.drew)) (entsC_one _) _ 1 (entsC [(x1, x2, x3)]) rfl (by first | exact (ents_lit _ _ oe).1 | exact Reads.drew' (ents_lit _ _ oe).1) (entsC_one _) (by unfold maxLen; omega) (by omega) ?_; intro v1 w1 hr1 ho1 hg1; have hown1 := ho1 (by omega); have k1 : Below wi.heap.size wi w1 := Below.grown (w := _) (by first | exact D0.alloc D0.size _ | exact D1.drew) hg1 (Below.size (B := wi.heap.size) (w := wi) (by first | exact D0.alloc D0.size _ | exact D1.drew)) (by intro k hk; cases hk); obtain ⟨g0, g1⟩ := HG.out w1 k1))
          all_goals
            go_wp2
            go_ret
            refine ⟨?_, .slice (some ⟨b2, 0, none⟩) N2 cap2, ?_, ?_, ?_⟩
            · rw [hadd]; rfl
            · exact tab_stored Hrow.out k2 (own_base (own_count hown2' HN2.out.symm) (Nat.le_trans hbase hws)) hj HN.out hins (HOk.out) Hso.out
            · exact grown_chain hw (grown_chain k2 (grown_set _ ⟨g, 1, none⟩ _))
            · exact .inr fun k hk => Nat.le_trans hws (own_block_ge hown2' k hk)
end Go.Proofs.Ytikodobglhjoiaa
