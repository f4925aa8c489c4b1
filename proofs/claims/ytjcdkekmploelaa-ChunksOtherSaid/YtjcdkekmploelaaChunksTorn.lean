/-
  Rows.ChunksTornSaid: of a head, and records behind it, cut off anywhere, just the records that are whole are told.
-/
import Derived.Test.YtjcdkekmploelaaChunked
import Derived.Test.YtjcdkekmploelaaRecordsTorn
namespace Go.Proofs.Ytjcdkekmploelaa
open Go.RowKit
set_option linter.unusedVariables false

theorem headL_ne {m : Nat} (h : m ≤ 199) : (headL (m : Int) != []) = true := by
  have := headL_length h
  rw [bne_iff_ne]; intro e; rw [e] at this; cases this
theorem torn_scan {m : Nat} (hm : m ≤ 199) (ps : List (List UInt8)) (c : Nat) (hc : c ≤ (rowL (headL (m : Int)) ps).length) :
    cOk ((rowL (headL (m : Int)) ps).take c) (m : Int) = true ∧ cFull ((rowL (headL (m : Int)) ps).take c) (m : Int) = decide (12 ≤ c) := by
  have hl := headL_length hm
  have hne := headL_ne hm
  unfold cOk cFull
  rw [hne, Bool.true_and, Bool.true_and]
  generalize headL (m : Int) = H at *
  have hlen : ((rowL H ps).take c).length = c := by simp; omega
  unfold rowL at *
  by_cases h : 12 ≤ c
  · have h1 : pre ((H ++ (ps.map recL).flatten).take c) H = true := by
      unfold pre
      rw [hlen, hl, decide_eq_true h, Bool.true_and, List.take_take, Nat.min_eq_left h, ← hl, List.take_left]
      simp
    rw [h1, decide_eq_true h]; simp
  · have h1 : pre ((H ++ (ps.map recL).flatten).take c) H = false := by
      unfold pre; rw [hlen, hl, decide_eq_false h]; rfl
    have h2 : pre H ((H ++ (ps.map recL).flatten).take c) = true := by
      unfold pre
      rw [hlen, hl, decide_eq_true (by omega), Bool.true_and, List.take_append_of_le_length (by omega)]
      simp
    rw [h1, h2, decide_eq_false h]; simp

set_option maxHeartbeats 2000000 in
theorem ChunksTorn_walk (v : Value) (ss : List ByteArray) (n : Int) (cut_ : Int) (w : World) (hv : Strs w v ss) (hn : 0 ≤ n ∧ n ≤ 255) (hcut : 0 ≤ cut_ ∧ cut_ ≤ 65535) :
    Calls Try.prog 13 #[v, .int .u8 n, .int .u16 cut_] w fun e w' => e = .returned (.bool true) ∧ Below w.heap.size w w' := by
  obtain ⟨p, rfl⟩ := Int.eq_ofNat_of_zero_le hn.1
  obtain ⟨r, rfl⟩ := Int.eq_ofNat_of_zero_le hcut.1
  have hp : (p : Int) ≤ 255 := hn.2
  have hr : (r : Int) ≤ 65535 := hcut.2
  clear hn hcut
  have hp' : p ≤ 255 := by omega
  obtain ⟨m, hm⟩ : ∃ m, m = p % 200 := ⟨_, rfl⟩
  have hm1 : m ≤ 199 := by omega
  have hm2 : (p : Int) % 200 = (m : Int) := by rw [hm, Int.natCast_emod]; congr 1
  have hmI : (m : Int) ≤ 199 := by omega
  have hH := fun w => chunks_Head (m : Int) w (by omega)
  have hHl := headL_length hm1
  have hts := torn_scan hm1
  have hSc := fun s w h => chunks_Scan s (m : Int) w h (by omega)
  obtain ⟨H, hHe⟩ : ∃ H, H = headL (m : Int) := ⟨_, rfl⟩
  rw [← hHe] at hH hHl hts
  have hR := fun w h1 h2 => law_Row (bs H) v ss w h1 h2
  have HR := Lib.hid hR
  obtain ⟨hrv, hsz⟩ := id hv
  obtain ⟨A, c, rfl, hc1, hc2, -, -⟩ := id hrv
  unfold maxLen at hc2
  have HH := Lib.hid hH
  have HSc := Lib.hid hSc
  have HHe := Lib.hid hHe
  clear hR hH hm hSc hHe
  go_enter Try.func13, Try.ntmps13
  go_wp2_with fail
  refine (HH.out _).mono ?_
  rintro e w0 ⟨rfl, hb0⟩
  go_wp2_with fail
  refine (HR.out _ (by rw [size_bs, hHl]; decide) ⟨hrv.next hb0, hsz⟩).mono ?_
  rintro e w1 ⟨hb1, rfl | ⟨hok, v1, rfl, hr1⟩⟩
  · go_wp2_with fail
    refine (law_chunked _).mono ?_
    rintro e w2 ⟨rfl, hb2⟩
    go_wp2
    go_ret
    refine ⟨rfl, ?_⟩
    repeat (first | assumption | exact Below.refl _ _ | (refine below_chain (by assumption) ?_))
  · obtain ⟨ho1, ho2, ho3⟩ := hok
    obtain ⟨ps, hps⟩ : ∃ ps, ps = ss.map lb := ⟨_, rfl⟩
    have hpl : ps.length = ss.length := by rw [hps]; simp
    have hp9 : ∀ p ∈ ps, p.length ≤ 2000 := fun p hp => by
      rw [hps] at hp
      obtain ⟨s, hs, rfl⟩ := List.mem_map.1 hp
      have := ho3 s hs
      rw [length_lb]; omega
    have hSl : (rowL (lb (bs H)) ps).length ≤ 30000 := by
      have := rowL_size (bs H) ss ss.length (by rw [List.take_length]; exact ho3) (Nat.le_refl _)
      rw [List.take_length, ← hps] at this; omega
    obtain ⟨A1, c1, rfl, h11, h12, -, -⟩ := id hr1
    obtain ⟨b1, o1, rfl, -, -, -, hcell1⟩ := hr1.at_ (by omega)
    unfold maxLen at h12
    rw [← hps] at hr1 hcell1 ⊢
    rw [lb_bs] at hSl hcell1 hr1 ⊢
    have hat : ∀ (j : Nat), j ≤ ss.length → ∀ w', Below w1.heap.size w1 w' → w'.cell? ⟨b1, o1 + j, none⟩ = some (.int .i64 (posL H ps j : Nat)) := fun j hj w' h => (hcell1 w' h j (by simp; omega)).trans (by rw [natsC_get, rowAt_get])
    have hS12 : 12 ≤ (rowL H ps).length := by
      have := posL_ge H ps ps.length
      rw [posL_end, hHl] at this; exact this
    have hple : ∀ j, posL H ps j ≤ 30000 := fun j => Nat.le_trans (posL_le _ _ _) hSl
    have hcutw := cut_whole H ps
    have hts := hts ps
    obtain ⟨S, hS⟩ : ∃ S, S = rowL H ps := ⟨_, rfl⟩
    rw [← hS] at hSl hS12 hts ⊢
    obtain ⟨q, hq⟩ : ∃ q, q = r % (S.length + 1) := ⟨_, rfl⟩
    have hq1 : q ≤ S.length := by rw [hq]; exact Nat.le_of_lt_succ (Nat.mod_lt _ (by omega))
    have hq2 : (r : Int) % ((S.length : Int) + 1) = (q : Int) := by rw [hq, Int.natCast_emod]; congr 1
    obtain ⟨t1, t2⟩ := hts q hq1
    have hlX : lb ((bs S).extract 0 q) = S.take q := by rw [bs_extract, lb_bs, lb_bs, List.drop_zero, Nat.sub_zero]
    have hszX : ((bs S).extract 0 q).size ≤ 1000000000000 := by rw [← length_lb, hlX]; simp; omega
    have hqI : (q : Int) ≤ S.length := by omega
    have Hps := Lib.hid hps
    have Hp9 := Lib.hid hp9
    have Hcell1 := Lib.hid hcell1
    have Hat := Lib.hid hat
    have Hr1 := Lib.hid hr1
    have Hcutw := Lib.hid hcutw
    have HS := Lib.hid hS
    have HlX := Lib.hid hlX
    have HszX := Lib.hid hszX
    have T1 := Lib.hid t1
    have T2 := Lib.hid t2
    clear hps hp9 hcell1 hr1 ho3 hq hat hcutw hS hlX hszX t1 t2 hts
    go_wp2_with fail
    refine (HSc.out _ _ HszX.out).mono ?_
    rw [HlX.out]
    rintro e w2 ⟨v2, rfl, hr2, hb2⟩
    have hk2 : cEnd (S.take q) (m : Int) = (if 12 ≤ q then wEnd (S.take q) 12 else 0) := by unfold cEnd; rw [T2.out]; simp
    have hk1 : cAt (S.take q) (m : Int) = (if 12 ≤ q then wAt (S.take q) 12 else []) := by unfold cAt; rw [T2.out]; simp
    rw [hk2, T1.out]
    rw [hk1] at hr2
    clear hk1 hk2
    by_cases hq12 : 12 ≤ q
    · have hd : decide ((q : Int) < 12) = false := by rw [decide_eq_false_iff_not]; omega
      rw [if_pos hq12] at hr2 ⊢
      go_wp2_with fail
      go_loopw [15] (fun i wr => ∃ m : Nat, m ≤ ss.length ∧ i = .int .i64 m ∧ posL H ps m ≤ q ∧ Below w1.heap.size w1 wr ∧ Below w2.heap.size w2 wr) (fun i _ => ss.length - (intOf i).toNat)
      case atStart => exact ⟨0, Nat.zero_le _, rfl, by rw [posL_zero, hHl]; exact hq12, hb2, Below.refl _ _⟩
      case round =>
        obtain ⟨j, hj, rfl, hpm, hbr, hbr2⟩ := hrel
        by_cases hgo : j < ss.length ∧ posL H ps (j + 1) ≤ q
        · obtain ⟨hlt, hnx⟩ := hgo
          have hc := Hat.out (j + 1) (by omega) wr hbr
          have hpp := hple (j + 1)
          generalize hP1 : posL H ps (j + 1) = P1 at hc hnx hpp
          have HP1 := Lib.hid hP1
          clear hP1
          have i1 : ((j : Int) + 1) < (ss.length : Int) + 1 := by omega
          go_wp2
          go_roundw
          case rel => exact ⟨j + 1, by omega, by go_num, by rw [HP1.out]; omega, hbr, hbr2⟩
          case measure => simp [intOf]; omega
        · have hstop : j < ps.length → q < posL H ps (j + 1) := fun h => by omega
          obtain ⟨w1_, w2_⟩ := Hcutw.out q j (by omega) Hp9.out hpm hstop (by rw [← HS.out]; exact hq1)
          rw [hHl, ← HS.out] at w1_ w2_
          have hpp := hple j
          have i0m : (j : Int) < (ss.length : Int) + 1 := by omega
          have hcN : j < ss.length → wr.cell? ⟨b1, o1 + (j + 1), none⟩ = some (.int .i64 (posL H ps (j + 1) : Nat)) := fun h => Hat.out (j + 1) (by omega) wr hbr
          have hs2 : j = ss.length ∨ (j < ss.length ∧ q < posL H ps (j + 1)) := by omega
          have HpN := Lib.hid (hple (j + 1))
          have e12 : ((12 : Nat) : Int) = 12 := rfl
          rw [e12] at w1_ w2_
          rw [w1_] at hr2
          rw [w2_]
          have hin := (Hr1.out.next hbr).take (m := j) (by omega)
          rw [natsC_take] at hin
          have hr3 := hr2.next hbr2
          have hlm : ((rowAt H ps).take j).length = j := by simp; omega
          rw [hlm] at hr3
          obtain ⟨ns, hns⟩ : ∃ ns, ns = (rowAt H ps).take j := ⟨_, rfl⟩
          rw [← hns] at hr3 hin hlm
          have hin' : Reads wr v2 1 (ns.map (fun n : Nat => (n : Int))).length (intsC (ns.map (fun n : Nat => (n : Int)))) := by rw [List.length_map, hlm]; exact hr3
          have hin'' : Reads wr (.slice (some ⟨b1, o1, none⟩) j c1) 1 (ns.map (fun n : Nat => (n : Int))).length (intsC (ns.map (fun n : Nat => (n : Int)))) := by rw [List.length_map, hlm]; exact hin
          have hI := ex_Ints v2 (.slice (some ⟨b1, o1, none⟩) j c1) (ns.map (fun n : Nat => (n : Int))) (ns.map (fun n : Nat => (n : Int))) true wr hin' hin'' (by simp)
          have HI := Lib.hid hI
          clear hI hin hin' hin'' hr3 hlm hns w1_ w2_ hr2 hgo hstop hple
          have k5 : (j : Int) ≤ c1 := by omega
          rcases hs2 with he | ⟨hlt, hnx⟩
          · clear hcN
            have heI : ¬ ((j : Int) + 1 < (ss.length : Int) + 1) := by omega
            clear he
            go_wp2_with fail
            refine HI.out.mono ?_
            rintro e w4 ⟨rfl, hb4⟩
            have hbw4 : Below w1.heap.size w1 w4 := below_more hbr hb4 (Nat.le_refl _)
            have hcm4 := Hat.out j hj w4 hbw4
            go_wp2_with fail
            refine (law_chunked _).mono ?_
            rintro e w5 ⟨rfl, hb5⟩
            go_wp2
            go_ret
            exact ⟨rfl, below_chain hb0 (below_chain hb1 (below_more hbw4 hb5 (Nat.le_refl _)))⟩
          · have hcN := hcN hlt
            have hpN := HpN.out
            have iN : ((j : Int) + 1) < (ss.length : Int) + 1 := by omega
            go_wp2_with fail
            refine HI.out.mono ?_
            rintro e w4 ⟨rfl, hb4⟩
            have hbw4 : Below w1.heap.size w1 w4 := below_more hbr hb4 (Nat.le_refl _)
            have hcm4 := Hat.out j hj w4 hbw4
            go_wp2_with fail
            refine (law_chunked _).mono ?_
            rintro e w5 ⟨rfl, hb5⟩
            go_wp2
            go_ret
            exact ⟨rfl, below_chain hb0 (below_chain hb1 (below_more hbw4 hb5 (Nat.le_refl _)))⟩
    · have hd : decide ((q : Int) < 12) = true := by rw [decide_eq_true_iff]; omega
      rw [if_neg hq12] at hr2 ⊢
      obtain ⟨A2, c2, rfl, -, -, -, -⟩ := id hr2
      go_wp2_with fail
      refine (law_chunked _).mono ?_
      rintro e w5 ⟨rfl, hb5⟩
      go_wp2
      go_ret
      refine ⟨rfl, ?_⟩
      repeat (first | assumption | exact Below.refl _ _ | (refine below_chain (by assumption) ?_))
end Go.Proofs.Ytjcdkekmploelaa
