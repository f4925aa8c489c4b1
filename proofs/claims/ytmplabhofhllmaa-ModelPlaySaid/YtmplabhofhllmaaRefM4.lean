/-
  MODEL, the document's: Append, the walk.
-/
import Derived.Test.YtmplabhofhllmaaRefM3
import Derived.Deep.RegionLaw
namespace Go.Proofs.Ytmplabhofhllmaa
open Go.RowKit
set_option linter.unusedVariables false

theorem wrap_two (N k : Nat) (h1 : N ≤ 100000) (h2 : k ≤ 1000) : IntKind.i64.wrap (IntKind.i64.wrap (N : Int) + (k : Int)) = (N : Int) + k := by
  have e1 : IntKind.i64.wrap (N : Int) = N := by rw [IntKind.wrap_i64]; omega
  rw [e1, IntKind.wrap_i64]; omega
/-- What is wrong with an Append, by the events. -/
def appT (T : List Tld) (s : ByteArray) (x : Int) (l : List Ev) : Int :=
  if checkB (s, 0, l) ≠ 0 then checkB (s, 0, l) else if x < -2 then 2 else if x ≠ -2 ∧ x ≠ ((streamT T s).length : Int) - 1 then 80 else checkB (s, ((streamT T s).length : Int), l)
def RAppYes (w : World) (base g : Nat) (vL vM : Value) (T : List Tld) (M : List Nat) (sure : Nat) (s : ByteArray) (f : Int) (l : List Ev) (e : Ending) (w' : World) : Prop :=
  e = .returned (.tuple #[.int .i64 f, .int .i64 0]) ∧ ∃ vL' vM', RefW w' base g vL' vM' (T ++ toldFrom s f l) (M ++ [l.length]) sure ∧ Below base w w' ∧ (∀ k, k < w.heap.size → k ≠ g → some k ≠ vL.ownBlock → some k ≠ vM.ownBlock → w'.heap[k]? = w.heap[k]?)
theorem rapp_fin {w w3 wr w' : World} {base g k : Nat} {vL vM vL' vM' : Value} {T : List Tld} {M : List Nat} {sure N : Nat} {s : ByteArray} {l : List Ev} (hb : Below w.heap.size w w3) (h1 : Keep2 w3 wr g vL.ownBlock) (h2 : Keep2 wr w' g vM.ownBlock) (hr : RefW w' base g vL' vM' (T ++ toldFrom s (N : Int) l) (M ++ [k]) sure) (hk : k = l.length)
    (hg : base ≤ g) (hbase : base ≤ w.heap.size) (hL : ∀ q, vL.ownBlock = some q → base ≤ q) (hM : ∀ q, vM.ownBlock = some q → base ≤ q) : RAppYes w base g vL vM T M sure s (N : Int) l (.returned (.tuple #[.int .i64 (N : Int), .int .i64 0])) w' := by
  subst hk
  have hfr : ∀ k, k < w.heap.size → k ≠ g → some k ≠ vL.ownBlock → some k ≠ vM.ownBlock → w'.heap[k]? = w.heap[k]? := fun q h3 h4 h5 h6 =>
    (h2.block q (Nat.lt_of_lt_of_le h3 (Nat.le_trans hb.size h1.size)) h4 h6).trans ((h1.block q (Nat.lt_of_lt_of_le h3 hb.size) h4 h5).trans (hb.block q h3))
  refine ⟨rfl, vL', vM', hr, ⟨h2.os.trans (h1.os.trans hb.os), h2.tape.trans (h1.tape.trans hb.tape), h2.output.trans (h1.output.trans hb.output), Nat.le_trans hb.size (Nat.le_trans h1.size h2.size), fun q hq => ?_⟩, hfr⟩
  exact hfr q (by omega) (by omega) (fun h9 => by have := hL q h9.symm; omega) (fun h9 => by have := hM q h9.symm; omega)
set_option maxRecDepth 100000 in
set_option maxHeartbeats 16000000 in
theorem refM_Append {w : World} {base g : Nat} {vL vM : Value} {T : List Tld} {M : List Nat} {sure : Nat} (h : RefW w base g vL vM T M sure) (s : ByteArray) (x : Int) (ve : Value) (l : List Ev) (hl : ∀ w', Below base w w' → Evs w' ve l) (hn : l.length ≤ 1000) (hs : s.size ≤ maxLen) (hT : T.length ≤ 100000) (hM : M.length ≤ 100000) (hbase : base ≤ w.heap.size) (hx : -9223372036854775808 ≤ x ∧ x ≤ 9223372036854775807) :
    Calls Try.prog 21 #[.pointer (some ⟨g, 0, none⟩), .string s, .int .i64 x, ve] w fun e w' =>
      (appT T s x l ≠ 0 → AppNo w (appT T s x l) e w') ∧ (appT T s x l = 0 → RAppYes w base g vL vM T M sure s ((streamT T s).length : Int) l e w') := by
  obtain ⟨Am, cm, rfl, -⟩ := id h.2.2.2.1.reads
  obtain ⟨A, c, rfl, -⟩ := id (hl w ⟨rfl, rfl, rfl, Nat.le_refl _, fun _ _ => rfl⟩).1
  obtain ⟨N, hN⟩ : ∃ N, N = (streamT T s).length := ⟨_, rfl⟩
  have hN9 : N ≤ 100000 := by have := streamT_len T s; omega
  have hE0 : Evs w (.slice A l.length c) l := hl w ⟨rfl, rfl, rfl, Nat.le_refl _, fun _ _ => rfl⟩
  have hbv : BatV w (.agg #[.string s, .int .i64 0, .slice A l.length c]) (s, 0, l) := ⟨A, c, rfl, hE0, hs, by simp only []; omega, by simp only []; omega⟩
  have hck := refB_Check _ _ w hbv
  have H := Lib.hid h
  have HE := Lib.hid hl
  have HN := Lib.hid hN
  have HX := Lib.hid hx
  have hbe := Lib.hid hbase
  clear h hl hbv hx
  by_cases hc : checkB (s, 0, l) = 0
  · rw [hc] at hck
    have hso := checkB_stream hc
    have HC := Lib.hid hc
    clear hc
    by_cases hx2 : x < -2
    · have hap : appT T s x l = 2 := by unfold appT; rw [if_neg (by rw [HC.out]; decide), if_pos hx2]
      have Hap := Lib.hid hap
      clear hap hN
      go_enter Try.func21, Try.ntmps21
      go_wp2_with fail
      refine hck.mono ?_
      rintro e w1 ⟨rfl, hb1⟩
      go_wp2
      go_ret2
      rw [Hap.out]
      exact ⟨fun _ => ⟨rfl, hb1⟩, fun h => absurd h (by decide)⟩
    · have HX2 := Lib.hid hx2
      go_enter Try.func21, Try.ntmps21
      go_wp2_with fail
      refine hck.mono ?_
      rintro e w1 ⟨rfl, hb1⟩
      have hst := refM_Stream g vL _ T M sure s w1 (H.out.r.next hb1) (by omega)
      rw [show (streamT T s).length = N from hN.symm] at hst
      go_wp2_with fail
      refine hst.mono ?_
      rintro e w2 ⟨vt, rfl, hot, hb2⟩
      obtain ⟨At, ct, rfl, -⟩ := Reads.of_own hot
      have hb12 := below_chain hb1 hb2
      have HB2 := Lib.hid hb12
      clear hot hb1 hb2 hb12 hst hck
      by_cases hx3 : x = -2 ∨ x = (N : Int) - 1
      · have hxx : (x != -2) = false ∨ ((x != -2) = true ∧ (x != (N : Int) - 1) = false) := by
          rcases (show x = -2 ∨ (x ≠ -2 ∧ x = (N : Int) - 1) from by omega) with hx4 | ⟨hx4, hx5⟩
          · exact .inl (by rw [bne_eq_false_iff_eq]; exact hx4)
          · exact .inr ⟨by rw [bne_iff_ne]; exact hx4, by rw [bne_eq_false_iff_eq]; exact hx5⟩
        have hap : appT T s x l = checkB (s, (N : Int), l) := by unfold appT; rw [if_neg (by rw [HC.out]; decide), if_neg (by have := HX2.out; omega), if_neg (by rw [← HN.out]; omega), HN.out]
        have HAP := Lib.hid hap
        have hE2 := HE.out w2 ⟨HB2.out.os, HB2.out.tape, HB2.out.output, HB2.out.size, fun k hk => HB2.out.block k (by omega)⟩
        have hbv2 : BatV w2 (.agg #[.string s, .int .i64 (N : Int), .slice A l.length c]) (s, (N : Int), l) := ⟨A, c, rfl, hE2, hs, by simp only []; omega, by simp only []; omega⟩
        have hpt := refB_Put _ _ w2 hbv2
        have HPT := Lib.hid hpt
        clear hap hE2 hbv2 hpt hx3 hN
        rcases hxx with hx6 | ⟨hx6, hx7⟩
        all_goals
          go_wp2_with fail
          refine HPT.out.mono ?_
          rintro e w3 ⟨rfl, hb3⟩
          have hb03 := below_more HB2.out hb3 (Nat.le_refl _)
          have HB3 := Lib.hid hb03
          clear hb3 hb03
          by_cases hc2 : checkB (s, (N : Int), l) = 0
          · rw [hc2]
            have HC2 := Lib.hid hc2
            clear hc2 hx2
            obtain ⟨n, hnn⟩ : ∃ n, n = l.length := ⟨_, rfl⟩
            have HNN := Lib.hid hnn
            rw [show l.length = n from hnn.symm]
            rw [← hnn] at hn
            obtain ⟨i0, hi0, hz0, hz1, hz2⟩ := info_parts infoTold
            have hTn := hT
            go_wp2_with fail
            go_loopw [12] (fun i wr => ∃ (k : Nat) (vL' : Value), k ≤ n ∧ i = .int .i64 (k : Int) ∧ RefW wr base g vL' (.slice Am M.length cm) (T ++ toldFrom s (N : Int) (l.take k)) M sure ∧ Keep2 w3 wr g vL.ownBlock ∧ (vL'.ownBlock = vL.ownBlock ∨ ∀ q, vL'.ownBlock = some q → w3.heap.size ≤ q)) (fun i _ => n - (intOf i).toNat)
            case atStart => exact ⟨0, vL, by omega, rfl, by rw [List.take_zero]; simpa [toldFrom] using H.out.next HB3.out, ⟨rfl, rfl, rfl, Nat.le_refl _, fun _ _ _ _ => rfl⟩, .inl rfl⟩
            case round =>
              obtain ⟨k, vL', hk, rfl, hrw, hkp0, hob⟩ := hrel
              have HRW := Lib.hid hrw
              have HKP := Lib.hid hkp0
              have HOB := Lib.hid hob
              have hbelow : Below base w wr := by
                have h1 := HKP.out.below (B := base) (by have := hbe.out; have := HB3.out.size; omega) H.out.2.1 (fun q hq => (H.out.2.2.1.row hq).2)
                have h2 := HB3.out
                exact ⟨h1.os.trans h2.os, h1.tape.trans h2.tape, h1.output.trans h2.output, Nat.le_trans h2.size h1.size, fun q hq => (h1.block q hq).trans (h2.block q (by have := hbe.out; omega))⟩
              have HBL := Lib.hid hbelow
              clear hrw hkp0 hob hbelow
              by_cases hlt : k < n
              · have i1 : (k : Int) < n := by omega
                obtain ⟨e, he⟩ : ∃ e, l[k]? = some e := ⟨_, List.getElem?_eq_getElem (by have := HNN.out; omega)⟩
                have hEw := HE.out wr HBL.out
                have hoe := hEw.ok he
                obtain ⟨be, oe, rfl, hbl9, hce⟩ := hEw.later (by have := HNN.out; omega)
                have HST := Lib.hid (toldFrom_take s (N : Int) he)
                obtain ⟨Tn, hTnn⟩ : ∃ Tn, Tn = (T ++ toldFrom s (N : Int) (l.take k)).length := ⟨_, rfl⟩
                have hTn9 : Tn ≤ 200000 := by
                  rw [hTnn, List.length_append, toldFrom_len, List.length_take]; omega
                obtain ⟨A', c', hv9, hcc1, hcc2, -⟩ := id HRW.out.2.2.1.reads
                rw [← hTnn] at hv9 hcc1
                subst hv9
                have HTN := Lib.hid hTnn.symm
                have D0 : Below wr.heap.size wr wr.drew := (Below.refl _ _).drew
                obtain ⟨e1, e2, e3⟩ := e
                have hwf : IntKind.i64.wrap (IntKind.i64.wrap (N : Int) + (k : Int)) = (N : Int) + k := wrap_two N k hN9 (by omega)
                have HWF := Lib.hid hwf
                have HOK := Lib.hid (show okT (s, IntKind.i64.wrap (IntKind.i64.wrap (N : Int) + (k : Int)), e1, e2, e3) from ⟨hs, by rw [hwf]; simp only []; omega, hoe⟩)
                have D1 : Below wr.heap.size wr (wr.alloc (.cells #[.string s, .int .i64 (IntKind.i64.wrap (IntKind.i64.wrap (N : Int) + (k : Int))), .string e1, .string e2, .float .f64 e3] 48)) := lit_below wr _
                have t0 := (HRW.out.1.next D0).cell 0 (by simp)
                have l0 := (HRW.out.1.next D1).cell 0 (by simp)
                simp only [List.getElem_cons_zero] at t0 l0
                obtain ⟨b0, b1, b2⟩ := hce k _ he _ D0
                dsimp only at b0 b1 b2
                have HLIT := Lib.hid (told_lit wr (s, IntKind.i64.wrap (IntKind.i64.wrap (N : Int) + (k : Int)), e1, e2, e3))
                have HN9 := Lib.hid hN9
                clear hN9 hwf hEw hce he hoe hTnn hbl9
                go_wp2_with fail
                rcases HRW.out.2.2.1 with hwn | hwn
                · have hwn2 := hwn
                  rw [HTN.out] at hwn2
                  have HW := Lib.hid hwn2
                  have HROW : Hid (RowG wr base 48 5 (.slice A' Tn c') (T ++ toldFrom s (N : Int) (l.take k)).length (toldsC (T ++ toldFrom s (N : Int) (l.take k))) (Value.slice A' Tn c').ownBlock) := Lib.hid (.inr ⟨rfl, hwn⟩)
                  clear hwn hwn2
                  go_region_law (refine step_append_at rfl _ _ 28 rfl base 48 i0 _ 5 64 Try.underlying28 hi0 hz0 hz1 hz2 rfl (by decide) (.slice A' Tn c') Tn (toldsC (T ++ toldFrom s (N : Int) (l.take k))) rfl (own_next HW.out (by first | exact D1.drew | exact D1 | exact D0.alloc D0.size _)) _ 1 (toldsC [(s, IntKind.i64.wrap (IntKind.i64.wrap (N : Int) + (k : Int)), e1, e2, e3)]) rfl (by first | exact HLIT.out | exact Reads.drewM HLIT.out) (toldsC_one _) (by unfold maxLen; omega) (by omega) (Nat.le_trans (Nat.le_trans hbe.out HBL.out.size) (Below.size (B := wr.heap.size) (w := wr) (by first | exact D1.drew | exact D1 | exact D0.alloc D0.size _))) ?_; intro v2 w2 hown2 hg2 hat2; obtain ⟨A2, cap2, rfl, -, -, -, -⟩ := Reads.of_own hown2; have hg2r := (HRW.out.1.next (by first | exact D1.drew | exact D1 | exact D0.alloc D0.size _)).grown hg2 (RowG.ne (RowG.next HROW.out (by first | exact D1.drew | exact D1 | exact D0.alloc D0.size _)) (HRW.out.1.next (by first | exact D1.drew | exact D1 | exact D0.alloc D0.size _)) types_neF.1); have c2' := hg2r.cell 0 (by simp); have f2' := hg2r.frozen 0 (by simp); have hst := Lib.hid (ref_step HRW.out HROW.out (by first | exact D1.drew | exact D1 | exact D0.alloc D0.size _) hg2 (by rw [HTN.out]; exact hown2) HOK.out); have hkp := Lib.hid (keep_grown (g := g) HROW.out (by first | exact D1.drew | exact D1 | exact D0.alloc D0.size _) hg2 0 (.slice A2 (Tn + 1) cap2)); have hat := Lib.hid (show ((Value.slice A2 (Tn + 1) cap2).ownBlock = (Value.slice A' Tn c').ownBlock ∨ ∀ q, (Value.slice A2 (Tn + 1) cap2).ownBlock = some q → wr.heap.size ≤ q) from hat2.elim (fun h9 => .inl h9) (fun h9 => .inr (fun q hq => by rw [h9] at hq; cases hq; exact Below.size (B := wr.heap.size) (w := wr) (by first | exact D1.drew | exact D1 | exact D0.alloc D0.size _)))))
                  all_goals
                    simp only [List.getElem_cons_zero] at c2'
                    clear hg2 hown2 hg2r
                    go_wp2
                    go_roundw
                    case rel =>
                      refine ⟨k + 1, .slice A2 (Tn + 1) cap2, by omega, by go_num, ?_, Keep2.trans' HKP.out hkp.out HOB.out, ?_⟩
                      · rw [HST.out, ← List.append_assoc, ← HWF.out]
                        exact hst.out
                      · rcases hat.out with h9 | h9
                        · rcases HOB.out with h8 | h8
                          · exact .inl (h9.trans h8)
                          · exact .inr (fun q hq => h8 q (by rw [← h9]; exact hq))
                        · exact .inr (fun q hq => Nat.le_trans HKP.out.size (h9 q hq))
                    case measure => simp [intOf]; omega
                · obtain ⟨bF, hvF, -⟩ := id hwn
                  obtain ⟨hA9, -, hc9⟩ := Value.slice.inj hvF
                  have hc8 : c' = Tn := hc9.trans HTN.out
                  subst hA9
                  subst hc8
                  have hrF := hwn
                  have HFR : Hid (Reads wr (.slice (some ⟨bF, 0, none⟩) c' c') 5 c' (toldsC (T ++ toldFrom s (N : Int) (l.take k)))) := Lib.hid (by
                    have := HRW.out.2.2.1.reads
                    rwa [HTN.out] at this)
                  have HROW : Hid (RowG wr base 48 5 (.slice (some ⟨bF, 0, none⟩) c' c') (T ++ toldFrom s (N : Int) (l.take k)).length (toldsC (T ++ toldFrom s (N : Int) (l.take k))) none) := Lib.hid (.inl rfl)
                  clear hwn hrF hvF hc9
                  go_region_law (refine step_append_full rfl _ _ 28 rfl 48 i0 _ 5 64 Try.underlying28 hi0 hz0 hz1 hz2 rfl _ c' (toldsC (T ++ toldFrom s (N : Int) (l.take k))) rfl (HFR.out.next (by first | exact D1.drew | exact D1 | exact D0.alloc D0.size _)) (toldsC_one _) _ 1 (toldsC [(s, IntKind.i64.wrap (IntKind.i64.wrap (N : Int) + (k : Int)), e1, e2, e3)]) rfl (by first | exact HLIT.out | exact Reads.drewM HLIT.out) (toldsC_one _) (by unfold maxLen; omega) (by omega) ?_; intro v2 w2 hrd2 hoo hg2; have hown2 := own_baseM (hoo (by omega)) (Nat.le_trans (Nat.le_trans hbe.out HBL.out.size) (Below.size (B := wr.heap.size) (w := wr) (by first | exact D1.drew | exact D1 | exact D0.alloc D0.size _))); obtain ⟨A2, cap2, rfl, -, -, -, -⟩ := Reads.of_own hown2; have hg2r := (HRW.out.1.next (by first | exact D1.drew | exact D1 | exact D0.alloc D0.size _)).grown hg2 (RowG.ne (RowG.next HROW.out (by first | exact D1.drew | exact D1 | exact D0.alloc D0.size _)) (HRW.out.1.next (by first | exact D1.drew | exact D1 | exact D0.alloc D0.size _)) types_neF.1); have c2' := hg2r.cell 0 (by simp); have f2' := hg2r.frozen 0 (by simp); have hst := Lib.hid (ref_step HRW.out HROW.out (by first | exact D1.drew | exact D1 | exact D0.alloc D0.size _) hg2 (by rw [HTN.out]; exact hown2) HOK.out); have hkp := Lib.hid (keep_grown (g := g) HROW.out (by first | exact D1.drew | exact D1 | exact D0.alloc D0.size _) hg2 0 (.slice A2 (c' + 1) cap2)); have hat := Lib.hid (show ((Value.slice A2 (c' + 1) cap2).ownBlock = (Value.slice (some ⟨bF, 0, none⟩) c' c').ownBlock ∨ ∀ q, (Value.slice A2 (c' + 1) cap2).ownBlock = some q → wr.heap.size ≤ q) from .inr (fun q hq => Nat.le_trans (Below.size (B := wr.heap.size) (w := wr) (by first | exact D1.drew | exact D1 | exact D0.alloc D0.size _)) (own_block_ge (hoo (by omega)) q hq))))
                  all_goals
                    simp only [List.getElem_cons_zero] at c2'
                    clear hg2 hown2 hg2r
                    go_wp2
                    go_roundw
                    case rel =>
                      refine ⟨k + 1, .slice A2 (c' + 1) cap2, by omega, by go_num, ?_, Keep2.trans' HKP.out hkp.out HOB.out, ?_⟩
                      · rw [HST.out, ← List.append_assoc, ← HWF.out]
                        exact hst.out
                      · rcases hat.out with h9 | h9
                        · rcases HOB.out with h8 | h8
                          · exact .inl (h9.trans h8)
                          · exact .inr (fun q hq => h8 q (by rw [← h9]; exact hq))
                        · exact .inr (fun q hq => Nat.le_trans HKP.out.size (h9 q hq))
                    case measure => simp [intOf]; omega
              · obtain rfl : k = n := by omega
                obtain ⟨m0, hm0, hy0, hy1, hy2⟩ := info_parts infoInt
                have hfin : RefW wr base g vL' (.slice Am M.length cm) (T ++ toldFrom s (N : Int) l) M sure := by
                  have := HRW.out
                  rwa [List.take_of_length_le (by rw [← HNN.out]; exact Nat.le_refl _)] at this
                have HFIN := Lib.hid hfin
                have g1 := hfin.1.cell 1 (by simp)
                simp only [List.getElem_cons_zero, List.getElem_cons_succ] at g1
                have HLC := Lib.hid (count_lit wr l.length)
                have hzC := lit_below wr (.cells #[.int .i64 (l.length : Int)] 3)
                have HZC := Lib.hid hzC
                have hk1000 : k ≤ 1000 := hn
                clear hfin hzC
                rcases HFIN.out.2.2.2.1 with hwn | hwn
                · have HW := Lib.hid hwn
                  clear hwn
                  go_wp2_with (first
                    | (at_builtin; refine wpList_append_at _ rfl _ _ 29 rfl base 3 m0 _ 1 8 Try.underlying29 hm0 hy0 hy1 hy2 rfl (by decide) (.slice Am M.length cm) M.length (natsC M) rfl (own_next HW.out HZC.out) _ 1 (natsC [l.length]) rfl HLC.out (natsC_one _) (by unfold maxLen; omega) (by omega) (Nat.le_trans (Nat.le_trans hbe.out HBL.out.size) HZC.out.size) ?_; intro v2 w2 hown2 hg2 hat2; obtain ⟨A2, cap2, rfl, -, -, -, -⟩ := Reads.of_own hown2; have HROW : Hid (RowG wr base 3 1 (.slice Am M.length cm) M.length (natsC M) (Value.slice Am M.length cm).ownBlock) := Lib.hid (.inr ⟨rfl, HW.out⟩); have hg2r := (HFIN.out.1.next HZC.out).grown hg2 (RowG.ne (RowG.next HROW.out HZC.out) (HFIN.out.1.next HZC.out) types_neF.2.1); have c2' := hg2r.cell 1 (by simp); have f2' := hg2r.frozen 1 (by simp)))
                  have hcnt := Lib.hid (ref_count HFIN.out HROW.out HZC.out hg2 hown2)
                  have hkp := Lib.hid (keep_grown (g := g) HROW.out HZC.out hg2 1 (.slice A2 (M.length + 1) cap2))
                  clear hg2 hown2 hg2r hat2
                  go_wp2
                  go_ret2
                  rw [HAP.out]
                  refine ⟨fun h => absurd HC2.out h, fun _ => ?_⟩
                  rw [show (streamT T s).length = N from HN.out.symm]
                  exact rapp_fin HB3.out HKP.out hkp.out hcnt.out rfl H.out.2.1 hbe.out (fun q hq => (H.out.2.2.1.row hq).2) (fun q hq => (H.out.2.2.2.1.row hq).2)
                · obtain ⟨bF, hvF, -⟩ := id hwn
                  obtain ⟨hA9, -, hc9⟩ := Value.slice.inj hvF
                  subst hA9
                  subst hc9
                  have HFR := Lib.hid HFIN.out.2.2.2.1.reads
                  clear hwn hvF
                  go_wp2_with (first
                    | (at_builtin; refine wpList_append_full _ rfl _ _ 29 rfl 3 m0 _ 1 8 Try.underlying29 hm0 hy0 hy1 hy2 rfl _ M.length (natsC M) rfl (HFR.out.next HZC.out) (natsC_one _) _ 1 (natsC [l.length]) rfl HLC.out (natsC_one _) (by unfold maxLen; omega) (by omega) ?_; intro v2 w2 hrd2 hoo hg2; have hown2 := own_baseM (hoo (by omega)) (Nat.le_trans (Nat.le_trans hbe.out HBL.out.size) HZC.out.size); obtain ⟨A2, cap2, rfl, -, -, -, -⟩ := Reads.of_own hown2; have HROW : Hid (RowG wr base 3 1 (.slice (some ⟨bF, 0, none⟩) M.length M.length) M.length (natsC M) none) := Lib.hid (.inl rfl); have hg2r := (HFIN.out.1.next HZC.out).grown hg2 (RowG.ne (RowG.next HROW.out HZC.out) (HFIN.out.1.next HZC.out) types_neF.2.1); have c2' := hg2r.cell 1 (by simp); have f2' := hg2r.frozen 1 (by simp)))
                  have hcnt := Lib.hid (ref_count HFIN.out HROW.out HZC.out hg2 hown2)
                  have hkp := Lib.hid (keep_grown (g := g) HROW.out HZC.out hg2 1 (.slice A2 (M.length + 1) cap2))
                  clear hg2 hown2 hg2r hrd2 hoo
                  go_wp2
                  go_ret2
                  rw [HAP.out]
                  refine ⟨fun h => absurd HC2.out h, fun _ => ?_⟩
                  rw [show (streamT T s).length = N from HN.out.symm]
                  exact rapp_fin HB3.out HKP.out hkp.out hcnt.out rfl H.out.2.1 hbe.out (fun q hq => (H.out.2.2.1.row hq).2) (fun q hq => (H.out.2.2.2.1.row hq).2)
          · have HC2 := Lib.hid hc2
            have hcc2 : (checkB (s, (N : Int), l) == 0) = false := by rw [beq_eq_false_iff_ne]; exact hc2
            have hcc3 : (checkB (s, (N : Int), l) != 0) = true := by rw [bne_iff_ne]; exact hc2
            clear hc2
            go_wp2
            go_ret2
            rw [HAP.out]
            exact ⟨fun _ => ⟨rfl, HB3.out⟩, fun h => absurd h HC2.out⟩
      · have hap : appT T s x l = 80 := by unfold appT; rw [if_neg (by rw [HC.out]; decide), if_neg (by have := HX2.out; omega), if_pos (by rw [← HN.out]; omega)]
        have hx6 : (x != -2) = true := by rw [bne_iff_ne]; omega
        have hx7 : (x != (N : Int) - 1) = true := by rw [bne_iff_ne]; omega
        have Hap := Lib.hid hap
        clear hap hx3 hN
        go_wp2
        go_ret2
        rw [Hap.out]
        exact ⟨fun _ => ⟨rfl, HB2.out⟩, fun h => absurd h (by decide)⟩
  · have hap : appT T s x l = checkB (s, 0, l) := by unfold appT; rw [if_pos hc]
    have hcc : (checkB (s, 0, l) == 0) = false := by rw [beq_eq_false_iff_ne]; exact hc
    have hcc2 : (checkB (s, 0, l) != 0) = true := by rw [bne_iff_ne]; exact hc
    have Hap := Lib.hid hap
    have HC := Lib.hid hc
    clear hap hc hN
    go_enter Try.func21, Try.ntmps21
    go_wp2_with fail
    refine hck.mono ?_
    rintro e w1 ⟨rfl, hb1⟩
    go_wp2
    go_ret2
    rw [Hap.out]
    exact ⟨fun _ => ⟨rfl, hb1⟩, fun h => absurd h HC.out⟩
end Go.Proofs.Ytmplabhofhllmaa
