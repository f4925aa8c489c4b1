/-
  PAGES: the law's own helpers: whether a hash may be there, by a file; the chapter's file.
-/
import Derived.Test.YtpoeginnoocenaaPage6
import Derived.Test.YtpoeginnoocenaaMade
namespace Go.Proofs.Ytpoeginnoocenaa
open Go.RowKit Go.Maps
set_option linter.unusedVariables false

set_option maxHeartbeats 1000000 in
theorem law_may (s : ByteArray) (h : Nat) (w : World) (hs : s.size ≤ 1000000000) (hh : h < 18446744073709551616) :
    Calls Try.prog 32 #[.string s, .int .u64 h] w fun e w' => e = .returned (.bool (mayF (lb s) h)) ∧ Below w.heap.size w w' := by
  have cL := fun w => pages_Load s w hs
  have cM := fun v w hf => pages_May v (lb s) h w hf hh
  clear hs hh
  go_enter Try.func32, Try.ntmps32
  go_wp2_with fail
  refine (cL _).mono ?_
  rintro e w1 ⟨v, rfl, hf, hb1⟩
  clear cL
  go_wp2_with fail
  refine (cM _ _ hf).mono ?_
  rintro e w2 ⟨rfl, hb2⟩
  clear cM
  go_wp2
  go_ret
  exact ⟨rfl, below_chain hb1 hb2⟩
theorem pg_191 : pgS[191]? = some (pgS.getD 191 0) := by decide +kernel
theorem pg_0 : pgS[0]? = some (pgS.getD 0 0) := by decide +kernel
theorem pg_v191 : pgS.getD 191 0 = 4 := by decide +kernel
theorem pg_v0 : pgS.getD 0 0 = 98 := by decide +kernel
theorem ex_may (l : List UInt8) (h : Nat) (b : Bool) (w : World) (hs : l.length ≤ 1000000000) (hh : h < 18446744073709551616) (hb : mayF l h = b) :
    Calls Try.prog 32 #[.string (bs l), .int .u64 h] w fun e w' => e = .returned (.bool b) ∧ Below w.heap.size w w' := by
  rw [← hb]
  have := law_may (bs l) h w (by rw [size_bs]; exact hs) hh
  rwa [lb_bs] at this
theorem ex_put (l : List UInt8) (p : Int) (r : List UInt8) (w : World) (hs : l.length ≤ 1000000000) (hp : -9223372036854775808 ≤ p ∧ p ≤ 9223372036854775807) (hb : fileP l p = r) :
    Calls Try.prog 22 #[.string (bs l), .int .i64 p] w fun e w' => e = .returned (.string (bs r)) ∧ Below w.heap.size w w' := by
  rw [← hb]
  have := pages_Put (bs l) p w (by rw [size_bs]; omega) hp
  rwa [lb_bs] at this
theorem turn_T : (cellsB pgS).set 191 (.int .u8 (bits BinOp.xor IntKind.u8 4 1)) = cellsB pgT := by
  rw [show bits BinOp.xor IntKind.u8 4 1 = 5 from by decide +kernel, cellsB_set _ _ _ (by decide) (by decide)]
  unfold pgT; rw [pg_v191]; rfl
theorem turn_U : (cellsB pgS).set 0 (.int .u8 (bits BinOp.xor IntKind.u8 98 1)) = cellsB pgU := by
  rw [show bits BinOp.xor IntKind.u8 98 1 = 99 from by decide +kernel, cellsB_set _ _ _ (by decide) (by decide)]
  unfold pgU; rw [pg_v0]; rfl
theorem fill_round (k : Nat) (hk : k < 60) : (cellsB (List.replicate k 255 ++ List.replicate (120 - k) 0)).set k (.int .u8 255) = cellsB (List.replicate (k + 1) 255 ++ List.replicate (120 - (k + 1)) 0) := by
  rw [cellsB_set _ _ _ (by decide) (by decide)]
  congr 1
  rw [List.set_append_right _ _ (by simp), List.length_replicate, Nat.sub_self, show 120 - k = (120 - (k + 1)) + 1 by omega, List.replicate_succ, List.set_cons_zero, List.replicate_succ' (n := k), List.append_assoc]
  rfl
set_option maxRecDepth 100000 in
set_option maxHeartbeats 4000000 in
theorem law_paged (w : World) :
    Calls Try.prog 21 #[] w fun e w' => e = .returned (.bool true) ∧ Below w.heap.size w w' := by
  obtain ⟨w1, hm0, hrow, hb1⟩ := make_bytes w 120 (by decide)
  have hm : (Instr.makeSlice 34 (.int .i64 120) (.int .i64 120)).run Try.prog w = .ok (.slice (some ⟨w.heap.size, 0, none⟩) 120 120) w1 := hm0
  clear hm0
  go_enter Try.func21, Try.ntmps21
  obtain ⟨B, hB⟩ : ∃ B, B = w.heap.size := ⟨_, rfl⟩
  rw [← hB] at hrow hm
  have HB := Lib.hid hB
  clear hB
  go_wp2_with fail
  go_loopw [2] (fun i wr => ∃ k : Nat, k ≤ 60 ∧ i = .int .i64 k ∧ Row wr B 5 (cellsB (List.replicate k 255 ++ List.replicate (120 - k) 0)) ∧ Below w.heap.size w wr) (fun i _ => 60 - (intOf i).toNat)
  case atStart => exact ⟨0, by omega, rfl, hrow, hb1⟩
  case round =>
    obtain ⟨k, hk, rfl, hrw, hbr⟩ := hrel
    clear hrow hm hb1
    by_cases hlt : k < 60
    · have k60 : (k : Int) < 60 := by omega
      have k120 : (k : Int) < 120 := by omega
      have hlen : (cellsB (List.replicate k 255 ++ List.replicate (120 - k) 0)).length = 120 := by rw [length_cellsB]; simp; omega
      obtain ⟨cv, hcell⟩ : ∃ cv, wr.cell? ⟨B, k, none⟩ = some cv := ⟨_, hrw.cell k (by omega)⟩
      have hfz := hrw.frozen k (by omega)
      have hset := hrw.set k (.int .u8 255)
      rw [fill_round k hlt] at hset
      have hbs := hbr.setCell (p := ⟨B, k, none⟩) (by show w.heap.size ≤ B; rw [HB.out]; exact Nat.le_refl _) (.int .u8 255)
      have Hset := Lib.hid hset
      have Hbs := Lib.hid hbs
      clear hrw hlen hset hbs
      go_wp2
      go_roundw
      case rel => exact ⟨k + 1, by omega, by go_num, Hset.out, Hbs.out⟩
      case measure => simp [intOf]; omega
    · obtain rfl : k = 60 := by omega
      have hcv := Row.conv (P := Try.prog) (cap := 120) (n := 120) hrw (by simp) Try.underlying34 Try.underlying5 Try.underlying9
      have hpgB : List.replicate 60 255 ++ List.replicate (120 - 60) 0 = pgB := rfl
      rw [hpgB] at hcv hrw
      have Hrw := Lib.hid hrw
      clear hrw hlt hpgB
      go_wp2_with fail
      refine (pages_Put (bs pgB) 1 _ (by decide) (by decide)).mono ?_
      rintro e w2 ⟨rfl, hb2⟩
      rw [lb_bs]
      rw [show fileP pgB 1 = pgS from rfl]
      clear hcv
      have hz : (bs pgS).size = 192 := by rw [size_bs]; exact pg_len
      obtain ⟨w3, cap3, hrun3, hrow3, hb3, hcap3⟩ := conv_bytes (P := Try.prog) w2 9 34 5 (bs pgS) Try.underlying9 Try.underlying34 Try.underlying5
      obtain ⟨w4, cap4, hrun4, hrow4, hb4, hcap4⟩ := conv_bytes (P := Try.prog) w3 9 34 5 (bs pgS) Try.underlying9 Try.underlying34 Try.underlying5
      rw [hz] at hrun3 hrun4
      rw [lb_bs] at hrow3 hrow4
      have hr3 := hrow3.next hb4
      have hTU : w2.heap.size < w3.heap.size := hrow3.lt
      obtain ⟨T, hT⟩ : ∃ T, T = w2.heap.size := ⟨_, rfl⟩
      obtain ⟨U, hU⟩ : ∃ U, U = w3.heap.size := ⟨_, rfl⟩
      rw [← hT] at hr3 hrow3 hTU
      rw [← hU] at hrow4 hTU
      have l192 : (cellsB pgS).length = 192 := by rw [length_cellsB]; exact pg_len
      have c191 : (cellsB pgS)[191]'(by omega) = .int .u8 4 := by rw [cellsB_getElem]; have := pg_191; rw [List.getElem?_eq_getElem (by rw [pg_len]; decide)] at this; injection this with this; rw [this, pg_v191]; rfl
      have c0 : (cellsB pgS)[0]'(by omega) = .int .u8 98 := by rw [cellsB_getElem]; have := pg_0; rw [List.getElem?_eq_getElem (by rw [pg_len]; decide)] at this; injection this with this; rw [this, pg_v0]; rfl
      have hcT := hr3.cell 191 (by omega)
      rw [c191] at hcT
      have hfT := hr3.frozen 191 (by omega)
      have hcU : ∀ V, (w4.setCell ⟨T, 191, none⟩ V).cell? ⟨U, 0, none⟩ = some (.int .u8 98) := fun V => by
        rw [(hrow4.far (p := ⟨T, 191, none⟩) (by show U ≠ T; omega) V).cell 0 (by omega), c0]
      have hfU : ∀ V, (w4.setCell ⟨T, 191, none⟩ V).frozen? ⟨U, 0, none⟩ = false := fun V => (hrow4.far (p := ⟨T, 191, none⟩) (by show U ≠ T; omega) V).frozen 0 (by omega)
      rw [← hT] at hrun3
      rw [← hU] at hrun4
      have Hr3 := Lib.hid hr3
      have Hr4 := Lib.hid hrow4
      have HT := Lib.hid hT
      have HU := Lib.hid hU
      have HTU := Lib.hid hTU
      have Hb3 := Lib.hid (below_chain hb3 hb4)
      clear hr3 hrow4 hrow3 c191 c0 l192 hT hTU hb3 hb4 hcap3 hcap4
      clear hU
      go_wp2_with fail
      have hs4 := (Hr3.out.set 191 (.int .u8 (bits BinOp.xor IntKind.u8 4 1))).far (p := ⟨U, 0, none⟩) (by show T ≠ U; have := HTU.out; omega) (.int .u8 (bits BinOp.xor IntKind.u8 98 1))
      have hs5 := (Hr4.out.far (p := ⟨T, 191, none⟩) (by show U ≠ T; have := HTU.out; omega) (.int .u8 (bits BinOp.xor IntKind.u8 4 1))).set 0 (.int .u8 (bits BinOp.xor IntKind.u8 98 1))
      have hbT : Below w2.heap.size w2 ((w4.setCell ⟨T, 191, none⟩ (.int .u8 (bits BinOp.xor IntKind.u8 4 1))).setCell ⟨U, 0, none⟩ (.int .u8 (bits BinOp.xor IntKind.u8 98 1))) :=
        (Hb3.out.setCell (p := ⟨T, 191, none⟩) (by show w2.heap.size ≤ T; rw [HT.out]; exact Nat.le_refl _) _).setCell (p := ⟨U, 0, none⟩) (by show w2.heap.size ≤ U; have := HTU.out; have := HT.out; omega) _
      rw [turn_T] at hs4
      rw [turn_U] at hs5
      have hbB := below_chain hbr (below_chain hb2 hbT)
      have hrB := (Hrw.out.next hb2).next hbT
      clear hcT hfT hcU hfU hrun3 hrun4 hb2 hbT
      clear Hb3 Hr3 Hr4 Hrw
      generalize (w4.setCell ⟨T, 191, none⟩ (.int .u8 (bits BinOp.xor IntKind.u8 4 1))).setCell ⟨U, 0, none⟩ (.int .u8 (bits BinOp.xor IntKind.u8 98 1)) = w5 at hs4 hs5 hbB hrB ⊢
      have kT : ∀ w', Below w5.heap.size w5 w' → (convert 34 9 (.slice (some ⟨T, 0, none⟩) 192 cap3)).run Try.prog w' = .ok (.string (bs pgT)) w' := fun w' hb => Row.conv (hs4.next hb) (by unfold pgT; rw [List.length_set, pg_len]) Try.underlying34 Try.underlying5 Try.underlying9
      have kU : ∀ w', Below w5.heap.size w5 w' → (convert 34 9 (.slice (some ⟨U, 0, none⟩) 192 cap4)).run Try.prog w' = .ok (.string (bs pgU)) w' := fun w' hb => Row.conv (hs5.next hb) (by unfold pgU; rw [List.length_set, pg_len]) Try.underlying34 Try.underlying5 Try.underlying9
      have kB : ∀ w', Below w5.heap.size w5 w' → (convert 34 9 (.slice (some ⟨B, 0, none⟩) 120 120)).run Try.prog w' = .ok (.string (bs pgB)) w' := fun w' hb => Row.conv (hrB.next hb) (by decide) Try.underlying34 Try.underlying5 Try.underlying9
      have KT := Lib.hid kT
      have KU := Lib.hid kU
      have KB := Lib.hid kB
      clear kT kU kB hs4 hs5 hrB
      refine (ex_may pgS 0 true _ (by rw [pg_len]; decide) (by decide) pg_yes).mono ?_
      rintro e w6 ⟨rfl, h6⟩
      go_wp2_with fail
      refine (ex_may pgS 480 false _ (by rw [pg_len]; decide) (by decide) pg_no).mono ?_
      rintro e w7 ⟨rfl, h7⟩
      have g7 := below_chain h6 h7
      clear h6 h7
      have k7 := KT.out _ g7
      have hx : (bs pgS).extract 0 191 = bs (pgS.take 191) := by rw [bs_extract, lb_bs]; simp
      go_wp2_with fail
      refine (ex_may pgT 0 true _ (by unfold pgT; rw [List.length_set, pg_len]; decide) (by decide) pg_t0).mono ?_
      rintro e w8 ⟨rfl, h8⟩
      clear k7
      have g8 := below_chain g7 h8
      have k8 := KT.out _ g8
      go_wp2_with fail
      refine (ex_may pgT 480 true _ (by unfold pgT; rw [List.length_set, pg_len]; decide) (by decide) pg_t480).mono ?_
      rintro e w9 ⟨rfl, h9⟩
      clear k8
      have g9 := below_chain g8 h9
      go_wp2_with fail
      refine (ex_may (pgS.take 191) 480 true _ (by rw [List.length_take, pg_len]; decide) (by decide) pg_short).mono ?_
      rintro e w10 ⟨rfl, h10⟩
      have g10 := below_chain g9 h10
      go_wp2_with fail
      refine (ex_may [] 480 true _ (by decide) (by decide) pg_none).mono ?_
      rintro e w11 ⟨rfl, h11⟩
      have g11 := below_chain g10 h11
      have k11 := KU.out _ g11
      go_wp2_with fail
      refine (ex_may pgU 480 true _ (by unfold pgU; rw [List.length_set, pg_len]; decide) (by decide) pg_u).mono ?_
      rintro e w12 ⟨rfl, h12⟩
      clear k11
      have g12 := below_chain g11 h12
      go_wp2_with fail
      refine (ex_put [] 1 [] _ (by decide) (by decide) pg_put0).mono ?_
      rintro e w13 ⟨rfl, h13⟩
      have g13 := below_chain g12 h13
      have k13 := KB.out _ g13
      go_wp2_with fail
      refine (ex_put pgB 17 [] _ (by decide) (by decide) pg_put17).mono ?_
      rintro e w14 ⟨rfl, h14⟩
      clear k13
      have g14 := Lib.hid (below_chain hbB (below_chain g13 h14))
      go_wp2
      go_ret
      exact ⟨rfl, g14.out⟩
end Go.Proofs.Ytpoeginnoocenaa
