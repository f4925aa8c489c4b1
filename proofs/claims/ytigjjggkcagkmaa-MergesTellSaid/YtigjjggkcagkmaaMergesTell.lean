/-
  Rows.MergesTellSaid: what any lists are, made one, is the document's; they stay.
-/
import Derived.Test.YtigjjggkcagkmaaMergeOne
import Derived.Test.YtigjjggkcagkmaaOpenLists
namespace Go.Proofs.Ytigjjggkcagkmaa
open Go.RowKit
set_option linter.unusedVariables false

theorem list_total {ls : List (List Ent)} {k : Nat} {l : List Ent} (h : ls[k]? = some l) (hb : ∀ l ∈ ls, l.length ≤ 60) : l.length ≤ 60 := hb l (List.mem_of_getElem? h)
/-- A row of entries' cells, above base, if there are any. -/
def Rows3 (w : World) (base : Nat) (A : Option Addr) (n : Nat) : Prop := 0 < n → ∃ g xs, A = some ⟨g, 0, none⟩ ∧ base ≤ g ∧ xs.length = n * 3 ∧ Row w g 40 xs
theorem Rows3.of_own {w : World} {base n c : Nat} {A : Option Addr} {xs : List Value} (h : w.ownsRow base 40 3 (.slice A n c) n xs) : Rows3 w base A n := by
  intro h0
  rcases h.2 with ⟨hn, hx⟩ | ⟨g, cap, cur, hv, hbs, hgg, _⟩
  · simp at hn; omega
  · cases hv
    exact ⟨g, xs, rfl, hbs, h.1, Row.of_own h⟩
set_option maxRecDepth 4000 in
set_option maxHeartbeats 4000000 in
theorem MergesTell_walk (v : Value) (ls : List (List Ent)) (w : World) (h : Lists w v ls) :
    Calls Try.prog 7 #[v] w fun e w' => e = .returned (.bool true) ∧ Below w.heap.size w w' := by
  obtain ⟨A, c, rfl, hc1, hc2⟩ := h.head
  unfold maxLen at hc2
  have hg := law_great (.slice A ls.length c) ls w h
  obtain ⟨n, hn⟩ : ∃ n, n = ls.length := ⟨_, rfl⟩
  have H := Lib.hid h
  have Hn := Lib.hid hn
  rw [← hn] at hc1 hg ⊢
  clear h
  rcases hgm : greatM ls with _ | _
  · obtain ⟨hl12, hl60, htot⟩ := greatM_no hgm
    rw [hgm] at hg
    rw [← hn] at hl12
    obtain ⟨j0, gj0, gz0, gz1, gz2⟩ := info_parts infoListM
    obtain ⟨i0, hi0, hz0, hz1, hz2⟩ := info_parts infoEntM
    have Hl60 := Lib.hid hl60
    clear hn hgm hl60
    go_enter Try.func7, Try.ntmps7
    go_wp2_with fail
    refine hg.mono ?_
    rintro e w1 ⟨rfl, hb1⟩
    clear hg
    go_wp2_with fail
    go_loopw [3, 4] (fun out i wr => ∃ (k : Nat) (A' : Option Addr) (c' : Nat) (vs : List Value), k ≤ n ∧ i = .int .i64 (k : Int) ∧ out = .slice A' k c' ∧ Own2 wr w.heap.size (.slice A' k c') (ls.take k) vs ∧ Below w.heap.size w wr) (fun _ i _ => n - (intOf i).toNat)
    case atStart => exact ⟨0, none, 0, [], Nat.zero_le _, rfl, rfl, Own2.nil _ _, hb1⟩
    case round =>
      obtain ⟨k, A0, c0, vs, hk, rfl, rfl, hown, hbr⟩ := hrel
      have Hown := Lib.hid hown
      clear hown
      by_cases hlt : k < n
      · have i1 : (k : Int) < n := by omega
        obtain ⟨l, hl⟩ : ∃ l, ls[k]? = some l := ⟨_, List.getElem?_eq_getElem (by have := Hn.out; omega)⟩
        have hll := list_total hl Hl60.out
        obtain ⟨b, off, A1, c1, rfl, hcell, hE, q1, q2⟩ := H.out.at hl
        have f0 := hcell wr hbr
        have HE := Lib.hid (hE.next hbr)
        have HT := Lib.hid (show ls.take (k + 1) = ls.take k ++ [l] by rw [List.take_add_one, hl]; rfl)
        unfold maxLen at q2
        clear hcell hE hl
        have hbs := hbr.size
        have hown3 := Hown.out.2.1
        have hlk : (ls.take k).length = k := by rw [List.length_take]; have := Hn.out; omega
        rw [hlk] at hown3
        have HO := Lib.hid hown3
        have Hlk := Lib.hid hlk
        clear hown3 hlk
        go_wp2_with (first
          | (at_builtin; refine wpList_append_own_at _ rfl _ _ 34 rfl w.heap.size 36 j0 _ 1 24 Try.underlying34 gj0 gz0 gz1 gz2 rfl (by decide) (.slice A0 k c0) k vs rfl HO4.out ⟨w4.heap.size, 0, none⟩ 1 1 [.slice A4 l.length c4] rfl rfl (cell_one_new _ _ _) (slice_one _ (by simp)) (by unfold maxLen; omega) (by omega) (by simp only [World.size_alloc]; omega) ?_; intro v5 w5 hown5 hg5 _ hat5; obtain ⟨A5, c5, rfl, -, -, -, -⟩ := Reads.of_own hown5)
          | (at_builtin; refine wpList_append_reads _ rfl _ _ 36 rfl wr.heap.size 40 i0 _ 3 24 Try.underlying36 hi0 hz0 hz1 hz2 rfl (by decide) (.slice none 0 0) 0 _ rfl (World.ownsRow_nil _ _ _ _) (.slice A1 l.length c1) l.length (entsC l) rfl HE.out.1 (entsC_oneM _) (by unfold maxLen; omega) (by omega) (Nat.le_refl _) ?_; intro v4 w4 hown4 hg4; rw [Nat.zero_add, List.nil_append] at hown4; obtain ⟨A4, c4, rfl, -, -, -, -⟩ := Reads.of_own hown4; have hb4 : Below wr.heap.size wr w4 := (Below.refl wr.heap.size wr).grown hg4 (Nat.le_refl _) (fun k hk => by simp [Value.ownBlock] at hk); have HO4 := Lib.hid (own_next (own_next HO.out hb4) (belowLitM w4 (.cells #[.slice A4 l.length c4] 36))); have hsz4 := hb4.size; have Hown4 := Lib.hid hown4; clear hown4))
        have hbl := belowLitM w4 (.cells #[.slice A4 l.length c4] 36)
        have hE4 : Ents w4 (.slice A4 l.length c4) l := ⟨Reads.of_own Hown4.out, HE.out.2⟩
        have hblk : 0 < l.length → ∀ b, (Value.slice A4 l.length c4).ownBlock = some b → (Value.slice A0 k c0).ownBlock ≠ some b := by
          intro _ b hb h
          have h1 := own_block_ge Hown4.out b hb
          have h2 := own_lt HO.out b h
          omega
        have hfin := ((Hown.out.next hb4).next hbl).grow (hE4.next hbl) hblk (by rw [Hlk.out]; exact hown5) hg5 hat5
        have hb5 := ((below_chain hbr hb4).alloc (below_chain hbr hb4).size (.cells #[.slice A4 l.length c4] 36)).grown hg5 ((below_chain hbr hb4).alloc (below_chain hbr hb4).size _).size (fun k hk => own_block_ge HO.out k hk)
        have H7 := Lib.hid hb5
        have H8 := Lib.hid hfin
        clear hb5 hown5 hfin hblk hE4 hbl
        go_wp2
        go_roundw
        case rel => exact ⟨k + 1, A5, c5, vs ++ [.slice A4 l.length c4], by omega, by go_num, rfl, by rw [HT.out]; exact H8.out, H7.out⟩
        case measure => simp [intOf]; omega
      · obtain rfl : k = n := by omega
        have i1 : ¬ (k : Int) < k := by omega
        have hall : ls.take k = ls := List.take_of_length_le (by have := Hn.out; omega)
        rw [hall] at Hown
        have hL := Hown.out.lists
        have hkl : k = ls.length := Hn.out
        have cm := merges_Merge (.slice A0 k c0) ls wr hL (by rw [← hkl]; omega) (by omega)
        have cr := fun w' (hb : Below w.heap.size w w') => ref_Merge (.slice A k c) ls w' (by have := H.out.next hb; rw [← hkl] at this; exact this) (by rw [← hkl]; omega) (by omega)
        have HL := Lib.hid hL
        have hmlen : (mergeL ls).length ≤ 720 := by
          have := mergeL_len ls
          omega
        have Hkl := Lib.hid hkl
        obtain ⟨r, hr⟩ : ∃ r, r = mergeL ls := ⟨_, rfl⟩
        rw [← hr] at cm hmlen
        simp only [← hr] at cr
        clear hall hL hkl hr Hown
        go_wp2_with fail
        refine cm.mono ?_
        rintro e w2 ⟨A2, c2, rfl, hown2, hok2, hb2⟩
        have hbw2 := below_chain hbr hb2
        have HE2 := Lib.hid (show Ents w2 (.slice A2 r.length c2) r from ⟨Reads.of_own hown2, hok2⟩)
        have Hown2 := Lib.hid hown2
        clear cm hok2 hown2
        go_wp2_with fail
        refine (cr w2 hbw2).mono ?_
        rintro e w3 ⟨A3, c3, rfl, hown3, hok3, hb3⟩
        have HE3 := Lib.hid (show Ents w3 (.slice A3 r.length c3) r from ⟨Reads.of_own hown3, hok3⟩)
        clear cr hown3 hok3
        go_wp2_with fail
        refine (ex_Same _ _ r r true w3 (HE2.out.next hb3) HE3.out (by simp)).mono ?_
        rintro e w4 ⟨rfl, hb4⟩
        have hb24 := below_chain hb3 hb4
        have hbr4 := below_chain hb2 hb24
        have hrows : Rows3 w4 wr.heap.size A2 r.length := Rows3.of_own (own_next Hown2.out hb24)
        clear HE2 HE3 hb3 hb4 Hown2 hb24
        obtain ⟨wo, rfl⟩ : ∃ x, x = wr := ⟨_, rfl⟩
        go_wp2_with fail
        go_loopw [6] (fun i wi => ∃ q : Nat, q ≤ r.length ∧ i = .int .i64 (q : Int) ∧ Rows3 wi wo.heap.size A2 r.length ∧ Below wo.heap.size wo wi) (fun i _ => r.length - (intOf i).toNat)
        case atStart => exact ⟨0, by omega, rfl, hrows, hbr4⟩
        case round =>
          obtain ⟨q, hq, rfl, hrw, hbi⟩ := hrel
          by_cases hqR : q < r.length
          · have iq : (q : Int) < r.length := by omega
            obtain ⟨g, xs, rfl, hge, hxl, hrow⟩ := hrw (by omega)
            have r0 := hrow.cell (q * 3) (by omega)
            have r1 := hrow.cell (q * 3 + 1) (by omega)
            have r2 := hrow.cell (q * 3 + 2) (by omega)
            have f0 := hrow.frozen (q * 3) (by omega)
            have f1 := hrow.frozen (q * 3 + 1) (by omega)
            have f2 := hrow.frozen (q * 3 + 2) (by omega)
            generalize xs[q * 3]'(by omega) = d0 at r0
            generalize xs[q * 3 + 1]'(by omega) = d1 at r1
            generalize xs[q * 3 + 2]'(by omega) = d2 at r2
            have Hrow := Lib.hid hrow
            clear hrow hrw hrows
            go_wp2
            go_roundw
            case rel => exact ⟨q + 1, by omega, by go_num, fun _ => ⟨g, _, rfl, hge, by simp [hxl], ((Hrow.out.set (q * 3) _).set (q * 3 + 1) _).set (q * 3 + 2) _⟩, ((hbi.setCell (p := ⟨g, q * 3, none⟩) hge _).setCell (p := ⟨g, q * 3 + 1, none⟩) hge _).setCell (p := ⟨g, q * 3 + 2, none⟩) hge _⟩
            case measure => simp [intOf]; omega
          · have iq : ¬ (q : Int) < r.length := by omega
            clear hrw hrows
            go_wp2_with fail
            go_loopw [7] (fun i wj => ∃ k' : Nat, k' ≤ k ∧ i = .int .i64 (k' : Int) ∧ Below wo.heap.size wo wj) (fun i _ => k - (intOf i).toNat)
            case atStart => exact ⟨0, Nat.zero_le _, rfl, hbi⟩
            case round =>
              obtain ⟨m, hm, rfl, hbj⟩ := hrel
              by_cases hmk : m < k
              · have j1 : (m : Int) < k := by omega
                obtain ⟨l, hl⟩ : ∃ l, ls[m]? = some l := ⟨_, List.getElem?_eq_getElem (by have := Hkl.out; omega)⟩
                have hLo : Lists wo (.slice A0 k c0) ls := by have := HL.out; exact this
                have hLi : Lists wo (.slice A k c) ls := by have := H.out.next hbr; rw [← Hkl.out] at this; exact this
                obtain ⟨b1, off1, B1, d1, rfl, hcell1, hE1, q1, q2⟩ := hLo.at hl
                obtain ⟨b2, off2, B2, d2, rfl, hcell2, hE2, q3, q4⟩ := hLi.at hl
                have f1 := fun x : Later wr => hcell1 x.it (below_chain hbj x.ok)
                have f2 := fun x : Later wr => hcell2 x.it (below_chain hbj x.ok)
                have cs := fun x : Later wr => ex_Same _ _ l l true x.it (hE1.next (below_chain hbj x.ok)) (hE2.next (below_chain hbj x.ok)) (by simp)
                clear hcell1 hcell2 hE1 hE2 hl hLo hLi q1 q2 q3 q4
                go_wp2_with fail
                refine wp_region_below (by kernel_rfl) (by kernel_rfl) ?_
                repeat (first | go_big_quiet_skip | (go_big_quiet_want; go_big_quiet_op; go_big_quiet_on) | (go_big_quiet_want; go_big_quiet_op; apply Exists.intro; refine ⟨fun x => ?_, ?_⟩; (first | (go_at_call 27; exact calls_below x (cs x))); go_big_quiet_on))
                refine wpQuiet_nil ?_
                intro _ hx
                obtain ⟨⟨w5, hb5⟩, rfl⟩ := hx
                go_wp2
                go_roundw
                case rel => exact ⟨m + 1, by omega, by go_num, below_chain hbj hb5⟩
                case measure => simp [intOf]; omega
              · have j1 : ¬ (m : Int) < k := by omega
                go_wp2_with fail
                refine (law_one wr).mono ?_
                rintro e w6 ⟨rfl, hb6⟩
                go_wp2
                go_ret
                exact ⟨rfl, below_chain (below_chain hbr hbj) hb6⟩
  · rw [hgm] at hg
    clear hn hgm
    go_enter Try.func7, Try.ntmps7
    go_wp2_with fail
    refine hg.mono ?_
    rintro e w1 ⟨rfl, hb1⟩
    go_wp2_with fail
    refine (law_one w1).mono ?_
    rintro e w2 ⟨rfl, hb2⟩
    go_wp2
    go_ret
    exact ⟨rfl, below_chain hb1 hb2⟩
end Go.Proofs.Ytigjjggkcagkmaa
