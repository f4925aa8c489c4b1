/-
  Rows.RecordsTornSaid: of a row that is cut off anywhere just the records that are whole are found, from its front.
-/
import Derived.Test.YtjcdkekmploelaaRecordsEnds
import Derived.Deep.RegionHeld3
namespace Go.Proofs.Ytjcdkekmploelaa
open Go.RowKit
set_option linter.unusedVariables false

theorem Reads.take {w : World} {A : Option Addr} {n c m : Nat} {xs : List Value} (h : Reads w (.slice A n c) 1 n xs) (hm : m ≤ n) : Reads w (.slice A m c) 1 m (xs.take m) := by
  obtain ⟨A', c', hv, h1, h2, hl, hc⟩ := h
  obtain ⟨rfl, -, rfl⟩ := Value.slice.inj hv
  refine ⟨_, _, rfl, by omega, h2, by simp; omega, fun h0 => ?_⟩
  obtain ⟨b, off, hA, hlt, hcell⟩ := hc (by omega)
  refine ⟨b, off, hA, hlt, fun j hj => ?_⟩
  simp at hj
  rw [hcell j (by omega)]; simp
theorem natsC_take (l : List Nat) (m : Nat) : (natsC l).take m = natsC (l.take m) := by simp [natsC, intsC]

set_option maxHeartbeats 1000000 in
theorem RecordsTorn_walk (a : ByteArray) (v : Value) (ss : List ByteArray) (cut_ : Int) (w : World) (ha : a.size ≤ maxLen) (hv : Strs w v ss) (hcut : 0 ≤ cut_ ∧ cut_ ≤ 65535) :
    Calls Try.prog 7 #[.string a, v, .int .u16 cut_] w fun e w' => e = .returned (.bool true) ∧ Below w.heap.size w w' := by
  obtain ⟨p, rfl⟩ := Int.eq_ofNat_of_zero_le hcut.1
  have hp : (p : Int) ≤ 65535 := hcut.2
  clear hcut
  have hR := law_Row a v ss
  obtain ⟨hrv, hsz⟩ := id hv
  obtain ⟨A, c, rfl, hc1, hc2, -, -⟩ := id hrv
  unfold maxLen at hc2
  go_enter Try.func7, Try.ntmps7
  go_wp2_with fail
  refine (hR w ha hv).mono ?_
  rintro e w1 ⟨hb1, rfl | ⟨hok, v1, rfl, hr1⟩⟩
  · go_wp2_with fail
    refine (law_recorded _).mono ?_
    rintro e w2 ⟨rfl, hb2⟩
    go_wp2
    go_ret
    refine ⟨rfl, ?_⟩
    repeat (first | assumption | exact Below.refl _ _ | (refine below_chain (by assumption) ?_))
  · obtain ⟨ho1, ho2, ho3⟩ := hok
    obtain ⟨ps, hps⟩ : ∃ ps, ps = ss.map lb := ⟨_, rfl⟩
    have hpl : ps.length = ss.length := by rw [hps]; simp
    have hp9 : ∀ p ∈ ps, p.length ≤ 2000 := fun p hp => by
      rw [hps] at hp
      obtain ⟨s, hs, rfl⟩ := List.mem_map.1 hp
      have := ho3 s hs
      rw [length_lb]; omega
    have hSl : (rowL (lb a) ps).length ≤ 30000 := by
      have := rowL_size a ss ss.length (by rw [List.take_length]; exact ho3) (Nat.le_refl _)
      rw [List.take_length, ← hps] at this; omega
    obtain ⟨A1, c1, rfl, h11, h12, -, -⟩ := id hr1
    obtain ⟨b1, o1, rfl, -, -, -, hcell1⟩ := hr1.at_ (by omega)
    unfold maxLen at h12
    rw [← hps] at hr1 hcell1 ⊢
    have hat : ∀ (j : Nat), j ≤ ss.length → ∀ w', Below w1.heap.size w1 w' → w'.cell? ⟨b1, o1 + j, none⟩ = some (.int .i64 (posL (lb a) ps j : Nat)) := fun j hj w' h => (hcell1 w' h j (by simp; omega)).trans (by rw [natsC_get, rowAt_get])
    have hge : a.size ≤ (rowL (lb a) ps).length := by
      have := posL_ge (lb a) ps ps.length
      rw [posL_end, length_lb] at this; exact this
    have hple : ∀ j, posL (lb a) ps j ≤ 30000 := fun j => Nat.le_trans (posL_le _ _ _) hSl
    have hcutw := cut_whole (lb a) ps
    obtain ⟨S, hS⟩ : ∃ S, S = rowL (lb a) ps := ⟨_, rfl⟩
    rw [← hS] at hSl hge ⊢
    have hcell0 := hat 0 (Nat.zero_le _)
    rw [posL_zero, length_lb] at hcell0
    obtain ⟨q, hq⟩ : ∃ q, q = p % (S.length - a.size + 1) := ⟨_, rfl⟩
    have hq1 : q ≤ S.length - a.size := by rw [hq]; exact Nat.le_of_lt_succ (Nat.mod_lt _ (by omega))
    have hq2 : (p : Int) % ((S.length : Int) - a.size + 1) = (q : Int) := by rw [hq, Int.natCast_emod]; congr 1; omega
    have i0 : (0 : Int) < (ss.length : Int) + 1 := by omega
    have c0 : w1.cell? ⟨b1, o1, none⟩ = some (.int .i64 (a.size : Nat)) := hcell0 _ (Below.refl _ _)
    have i9 : (0 : Int) ≤ (S.length : Int) - a.size := by omega
    have Hps := Lib.hid hps
    have Hp9 := Lib.hid hp9
    have Hcell0 := Lib.hid hcell0
    have Hcell1 := Lib.hid hcell1
    have Hat := Lib.hid hat
    have Hr1 := Lib.hid hr1
    have Hcutw := Lib.hid hcutw
    have HS := Lib.hid hS
    clear hps hp9 hcell0 hcell1 hr1 ho3 hq hat hcutw hS
    go_wp2_with fail
    go_quiet (fail)
    go_wp2_with fail
    have hbd : Below w1.heap.size w1 (w1.drewN nq) := below_drewN (Below.refl _ _) _
    generalize w1.drewN nq = w2 at hbd ⊢
    go_loopw [11] (fun i wr => ∃ m : Nat, m ≤ ss.length ∧ i = .int .i64 m ∧ posL (lb a) ps m ≤ a.size + q ∧ Below w1.heap.size w1 wr) (fun i _ => ss.length - (intOf i).toNat)
    case atStart => exact ⟨0, Nat.zero_le _, rfl, by rw [posL_zero, length_lb]; omega, hbd⟩
    case round =>
      obtain ⟨m, hm, rfl, hpm, hbr⟩ := hrel
      by_cases hgo : m < ss.length ∧ posL (lb a) ps (m + 1) ≤ a.size + q
      · obtain ⟨hlt, hnx⟩ := hgo
        have hc := Hat.out (m + 1) (by omega) wr hbr
        have hpp := hple (m + 1)
        generalize hP1 : posL (lb a) ps (m + 1) = P1 at hc hnx hpp
        have HP1 := Lib.hid hP1
        clear hP1
        have i1 : ((m : Int) + 1) < (ss.length : Int) + 1 := by omega
        go_wp2
        go_roundw
        case rel => exact ⟨m + 1, by omega, by go_num, by rw [HP1.out]; omega, hbr⟩
        case measure => simp [intOf]; omega
      · have hstop : m < ps.length → a.size + q < posL (lb a) ps (m + 1) := fun h => by
          omega
        have hKl : a.size + q ≤ S.length := by omega
        obtain ⟨w1_, w2_⟩ := Hcutw.out (a.size + q) m (by omega) Hp9.out hpm hstop (by rw [← HS.out]; exact hKl)
        rw [length_lb, ← HS.out] at w1_ w2_
        have hlX : lb (bs S |>.extract 0 (a.size + q)) = S.take (a.size + q) := by rw [bs_extract, lb_bs, lb_bs, List.drop_zero, Nat.sub_zero]
        have hszX : ((bs S).extract 0 (a.size + q)).size ≤ 1000000000000 := by rw [← length_lb, hlX]; simp; omega
        obtain ⟨X, hX⟩ : ∃ X, X = (bs S).extract 0 (a.size + q) := ⟨_, rfl⟩
        rw [← hX] at hlX hszX
        have hc0 : wr.cell? ⟨b1, o1, none⟩ = some (.int .i64 (a.size : Nat)) := Hcell0.out wr hbr
        have hcm := Hat.out m hm wr hbr
        have hpp := hple m
        have k1 : (a.size : Int) + q ≤ S.length := by omega
        have k0 : (0 : Int) ≤ (a.size : Int) + q := by omega
        have i0m : (m : Int) < (ss.length : Int) + 1 := by omega
        have hcN : m < ss.length → wr.cell? ⟨b1, o1 + (m + 1), none⟩ = some (.int .i64 (posL (lb a) ps (m + 1) : Nat)) := fun h => Hat.out (m + 1) (by omega) wr hbr
        have hs2 : m = ss.length ∨ (m < ss.length ∧ a.size + q < posL (lb a) ps (m + 1)) := by omega
        have HpN := Lib.hid (hple (m + 1))
        have HX := Lib.hid hX
        have HlX := Lib.hid hlX
        have HszX := Lib.hid hszX
        have Hw1 := Lib.hid w1_
        have Hw2 := Lib.hid w2_
        clear w1_ w2_ hlX hszX hgo hstop hple
        rcases hs2 with he | ⟨hlt, hnx⟩
        · clear hcN
          obtain ⟨N, hN⟩ : ∃ N, N = ss.length := ⟨_, rfl⟩
          have heI : ¬ ((m : Int) + 1 < (ss.length : Int) + 1) := by omega
          clear he hN
          go_wp2_with fail
          go_region_held3 (fun w' => w'.cell? ⟨b1, o1, none⟩ = some (.int .i64 (a.size : Nat))) (first | go_keep | (exact Hcell0.out _ (below_more hbr.drew hb3 (Nat.le_refl _)))) ((go_at_call 23; refine (records_Whole _ _ _ (by rw [bs_extract]; simp; omega) (by omega)).mono ?_; rintro e w3 ⟨v3, rfl, hr3, hb3⟩))
          rw [show ((a.size : Int) + (q : Int)).toNat = a.size + q from by omega, ← HX.out, HlX.out] at hr3 ⊢
          rw [Hw1.out] at hr3
          rw [Hw2.out]
          have hbw3 : Below w1.heap.size w1 w3 := below_more hbr.drew hb3 (Nat.le_refl _)
          have hin := (Hr1.out.next hbw3).take (m := m) (by omega)
          rw [natsC_take] at hin
          have hlm : ((rowAt (lb a) ps).take m).length = m := by simp; omega
          rw [hlm] at hr3
          obtain ⟨ns, hns⟩ : ∃ ns, ns = (rowAt (lb a) ps).take m := ⟨_, rfl⟩
          rw [← hns] at hr3 hin hlm
          have hin' : Reads w3 v3 1 (ns.map (fun n : Nat => (n : Int))).length (intsC (ns.map (fun n : Nat => (n : Int)))) := by rw [List.length_map, hlm]; exact hr3
          have hin'' : Reads w3 (.slice (some ⟨b1, o1, none⟩) m c1) 1 (ns.map (fun n : Nat => (n : Int))).length (intsC (ns.map (fun n : Nat => (n : Int)))) := by rw [List.length_map, hlm]; exact hin
          have hI := ex_Ints v3 (.slice (some ⟨b1, o1, none⟩) m c1) (ns.map (fun n : Nat => (n : Int))) (ns.map (fun n : Nat => (n : Int))) true w3 hin' hin'' (by simp)
          have HI := Lib.hid hI
          clear hI hin hin' hin'' hr3 hlm hns hc0 hcm
          have k5 : (m : Int) ≤ c1 := by omega
          go_wp2_with fail
          refine HI.out.mono ?_
          rintro e w4 ⟨rfl, hb4⟩
          have hbw4 : Below w1.heap.size w1 w4 := below_more hbw3 hb4 (Nat.le_refl _)
          have hcm4 := Hat.out m hm w4 hbw4
          go_wp2_with fail
          refine (law_recorded _).mono ?_
          rintro e w5 ⟨rfl, hb5⟩
          go_wp2
          go_ret
          exact ⟨rfl, below_chain hb1 (below_more hbw4 hb5 (Nat.le_refl _))⟩
        · have hcN := hcN hlt
          have hpN := HpN.out
          have iN : ((m : Int) + 1) < (ss.length : Int) + 1 := by omega
          go_wp2_with fail
          go_region_held3 (fun w' => w'.cell? ⟨b1, o1, none⟩ = some (.int .i64 (a.size : Nat))) (first | go_keep | (exact Hcell0.out _ (below_more hbr.drew hb3 (Nat.le_refl _)))) ((go_at_call 23; refine (records_Whole _ _ _ (by rw [bs_extract]; simp; omega) (by omega)).mono ?_; rintro e w3 ⟨v3, rfl, hr3, hb3⟩))
          rw [show ((a.size : Int) + (q : Int)).toNat = a.size + q from by omega, ← HX.out, HlX.out] at hr3 ⊢
          rw [Hw1.out] at hr3
          rw [Hw2.out]
          have hbw3 : Below w1.heap.size w1 w3 := below_more hbr.drew hb3 (Nat.le_refl _)
          have hin := (Hr1.out.next hbw3).take (m := m) (by omega)
          rw [natsC_take] at hin
          have hlm : ((rowAt (lb a) ps).take m).length = m := by simp; omega
          rw [hlm] at hr3
          obtain ⟨ns, hns⟩ : ∃ ns, ns = (rowAt (lb a) ps).take m := ⟨_, rfl⟩
          rw [← hns] at hr3 hin hlm
          have hin' : Reads w3 v3 1 (ns.map (fun n : Nat => (n : Int))).length (intsC (ns.map (fun n : Nat => (n : Int)))) := by rw [List.length_map, hlm]; exact hr3
          have hin'' : Reads w3 (.slice (some ⟨b1, o1, none⟩) m c1) 1 (ns.map (fun n : Nat => (n : Int))).length (intsC (ns.map (fun n : Nat => (n : Int)))) := by rw [List.length_map, hlm]; exact hin
          have hI := ex_Ints v3 (.slice (some ⟨b1, o1, none⟩) m c1) (ns.map (fun n : Nat => (n : Int))) (ns.map (fun n : Nat => (n : Int))) true w3 hin' hin'' (by simp)
          have HI := Lib.hid hI
          clear hI hin hin' hin'' hr3 hlm hns hc0 hcm
          have k5 : (m : Int) ≤ c1 := by omega
          go_wp2_with fail
          refine HI.out.mono ?_
          rintro e w4 ⟨rfl, hb4⟩
          have hbw4 : Below w1.heap.size w1 w4 := below_more hbw3 hb4 (Nat.le_refl _)
          have hcm4 := Hat.out m hm w4 hbw4
          go_wp2_with fail
          refine (law_recorded _).mono ?_
          rintro e w5 ⟨rfl, hb5⟩
          go_wp2
          go_ret
          exact ⟨rfl, below_chain hb1 (below_more hbw4 hb5 (Nat.le_refl _))⟩
end Go.Proofs.Ytjcdkekmploelaa
