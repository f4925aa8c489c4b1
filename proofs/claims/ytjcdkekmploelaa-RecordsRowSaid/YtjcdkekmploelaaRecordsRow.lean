/-
  Rows.RecordsRowSaid.
-/
import Derived.Test.YtjcdkekmploelaaRecordsTorn
namespace Go.Proofs.Ytjcdkekmploelaa
open Go.RowKit
set_option linter.unusedVariables false

set_option maxHeartbeats 1000000 in
theorem RecordsRow_walk (a : ByteArray) (v : Value) (ss : List ByteArray) (place : Int) (w : World) (ha : a.size ≤ maxLen) (hv : Strs w v ss) (hpl : 0 ≤ place ∧ place ≤ 65535) :
    Calls Try.prog 5 #[.string a, v, .int .u16 place] w fun e w' => e = .returned (.bool true) ∧ Below w.heap.size w w' := by
  obtain ⟨p, rfl⟩ := Int.eq_ofNat_of_zero_le hpl.1
  have hp : (p : Int) ≤ 65535 := hpl.2
  clear hpl
  have hR := law_Row a v ss
  obtain ⟨hrv, hsz⟩ := id hv
  obtain ⟨A, c, rfl, hc1, hc2, -, -⟩ := id hrv
  unfold maxLen at hc2
  go_enter Try.func5, Try.ntmps5
  go_wp2_with fail
  refine (hR w ha hv).mono ?_
  rintro e w1 ⟨hb1, rfl | ⟨hok, v1, rfl, hr1⟩⟩
  · go_wp2_with fail
    refine (law_recorded _).mono ?_
    rintro e w2 ⟨rfl, hb2⟩
    go_wp2
    go_ret
    refine ⟨rfl, ?_⟩
    repeat (first | assumption | exact Below.refl _ _ | (refine below_chain (by assumption) ?_))
  · obtain ⟨ho1, ho2, ho3⟩ := hok
    obtain ⟨ps, hps⟩ : ∃ ps, ps = ss.map lb := ⟨_, rfl⟩
    have hSl : (rowL (lb a) ps).length ≤ 30000 := by
      have := rowL_size a ss ss.length (by rw [List.take_length]; exact ho3) (Nat.le_refl _)
      rw [List.take_length, ← hps] at this; omega
    have hpl : ps.length = ss.length := by rw [hps]; simp
    obtain ⟨A1, c1, rfl, h11, h12, -, -⟩ := id hr1
    obtain ⟨b1, o1, rfl, -, -, -, hcell1⟩ := hr1.at_ (by omega)
    unfold maxLen at h12
    rw [← hps] at hr1 hcell1 ⊢
    have hat : ∀ (j : Nat), j ≤ ss.length → w1.cell? ⟨b1, o1 + j, none⟩ = some (.int .i64 (posL (lb a) ps j : Nat)) := fun j hj => (hcell1 w1 (Below.refl _ _) j (by simp; omega)).trans (by rw [natsC_get, rowAt_get])
    have hple : ∀ j, posL (lb a) ps j ≤ 30000 := fun j => Nat.le_trans (posL_le _ _ _) hSl
    obtain ⟨S, hS⟩ : ∃ S, S = rowL (lb a) ps := ⟨_, rfl⟩
    rw [← hS] at hSl ⊢
    obtain ⟨q, hq⟩ : ∃ q, q = p % (S.length + 2) := ⟨_, rfl⟩
    have hq1 : q ≤ S.length + 1 := by rw [hq]; exact Nat.le_of_lt_succ (Nat.mod_lt _ (by omega))
    have hq2 : (p : Int) % ((S.length : Int) + 2) = (q : Int) := by rw [hq, Int.natCast_emod]; congr 1
    obtain ⟨j, hj⟩ : ∃ j, j = p % (ss.length + 1) := ⟨_, rfl⟩
    have hj1 : j ≤ ss.length := by rw [hj]; exact Nat.le_of_lt_succ (Nat.mod_lt _ (by omega))
    have hj2 : (p : Int) % ((ss.length : Int) + 1) = (j : Int) := by rw [hj, Int.natCast_emod]; congr 1
    obtain ⟨r, hr⟩ : ∃ r, r = q % (S.length + 1) := ⟨_, rfl⟩
    have hr1' : r ≤ S.length := by rw [hr]; exact Nat.le_of_lt_succ (Nat.mod_lt _ (by omega))
    have hr2 : (q : Int) % ((S.length : Int) + 1) = (r : Int) := by rw [hr, Int.natCast_emod]; congr 1
    have c0 : w1.cell? ⟨b1, o1, none⟩ = some (.int .i64 (posL (lb a) ps 0 : Nat)) := hat 0 (by omega)
    have cj := hat j hj1
    have hp0 := hple 0
    have hpj := hple j
    generalize posL (lb a) ps 0 = P0 at *
    generalize posL (lb a) ps j = PJ at *
    have i0 : (0 : Int) < (ss.length : Int) + 1 := by omega
    have ij : (j : Int) < (ss.length : Int) + 1 := by omega
    have hSs : (bs S).size ≤ 1000000000000 := by rw [size_bs]; omega
    have hSx : ((bs S).extract 0 r).size ≤ 1000000000000 := by rw [bs_extract]; simp; omega
    have HSs := Lib.hid hSs
    have HSx := Lib.hid hSx
    clear hps hcell1 hr1 ho3 hq hj hr hat hple hS hSs hSx
    go_wp2_with fail
    go_quiet (fail)
    go_wp2_with fail
    have hbd : Below w1.heap.size w1 (w1.drewN nq) := below_drewN (Below.refl _ _) _
    generalize w1.drewN nq = w2 at hbd ⊢
    simp only [hq2, hj2]
    go_loopw [42] (fun i wr => ∃ m : Nat, m ≤ 3 ∧ i = .int .i64 m ∧ Below w1.heap.size w1 wr) (fun i _ => 3 - (intOf i).toNat)
    case atStart => exact ⟨0, by omega, rfl, hbd⟩
    case round =>
      obtain ⟨m, hm, rfl, hbr⟩ := hrel
      rcases (show m = 0 ∨ m = 1 ∨ m = 2 ∨ m = 3 from by omega) with rfl | rfl | rfl | rfl
      case inr.inr.inr =>
        go_wp2_with fail
        refine (law_recorded _).mono ?_
        rintro e w3 ⟨rfl, hb3⟩
        go_wp2
        go_ret
        exact ⟨rfl, below_chain hb1 (below_more hbr hb3 (Nat.le_refl _))⟩
      all_goals
        have x0 : ∀ w : World, (Instr.index 33 (.agg #[.int .i64 (q : Int), .int .i64 (PJ : Int), .int .i64 (P0 : Int)]) (.int .i64 0)).run Try.prog w = .ok (.int .i64 (q : Int)) w := fun _ => by kernel_rfl
        have x1 : ∀ w : World, (Instr.index 33 (.agg #[.int .i64 (q : Int), .int .i64 (PJ : Int), .int .i64 (P0 : Int)]) (.int .i64 1)).run Try.prog w = .ok (.int .i64 (PJ : Int)) w := fun _ => by kernel_rfl
        have x2 : ∀ w : World, (Instr.index 33 (.agg #[.int .i64 (q : Int), .int .i64 (PJ : Int), .int .i64 (P0 : Int)]) (.int .i64 2)).run Try.prog w = .ok (.int .i64 (P0 : Int)) w := fun _ => by kernel_rfl
        go_wp2_with fail
        refine Calls.mono (law_stand _ _ _ HSs.out ?_) ?_
        · omega
        rintro e w3 ⟨rfl, hb3⟩
        go_wp2_with fail
        refine Calls.mono (law_stand _ _ _ HSx.out ?_) ?_
        · omega
        rintro e w4 ⟨rfl, hb4⟩
        go_wp2
        go_roundw
        case rel =>
          have hbw := below_more (below_more hbr hb3 (Nat.le_refl _)) hb4 (Nat.le_refl _)
          first | exact ⟨1, by omega, by rfl, hbw⟩ | exact ⟨2, by omega, by rfl, hbw⟩ | exact ⟨3, by omega, by rfl, hbw⟩
        case measure => simp [intOf]
end Go.Proofs.Ytjcdkekmploelaa
