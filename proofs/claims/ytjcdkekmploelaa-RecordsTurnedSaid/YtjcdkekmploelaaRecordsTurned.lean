/-
  Rows.RecordsTurnedSaid.
-/
import Derived.Test.YtjcdkekmploelaaStand
import Derived.Test.YtjcdkekmploelaaRecTurned
import Derived.Test.YtjcdkekmploelaaTurn
namespace Go.Proofs.Ytjcdkekmploelaa
open Go.RowKit
set_option linter.unusedVariables false

set_option maxHeartbeats 2000000 in
theorem RecordsTurned_walk (s : ByteArray) (at_ : Int) (by_ : Int) (w : World) (hs : s.size ≤ maxLen) (ha : 0 ≤ at_ ∧ at_ ≤ 65535) (hb : 0 ≤ by_ ∧ by_ ≤ 4294967295) :
    Calls Try.prog 8 #[.string s, .int .u16 at_, .int .u32 by_] w fun e w' => e = .returned (.bool true) ∧ Below w.heap.size w w' := by
  obtain ⟨p, rfl⟩ := Int.eq_ofNat_of_zero_le ha.1
  obtain ⟨n, rfl⟩ := Int.eq_ofNat_of_zero_le hb.1
  have hp : (p : Int) ≤ 65535 := ha.2
  have hn : n < 4294967296 := by omega
  clear ha hb
  unfold maxLen at hs
  by_cases hsz : s.size ≤ 1500
  · have hsz' : ¬ (1500 : Int) < s.size := by omega
    by_cases h0 : n = 0
    · subst h0
      go_enter Try.func8, Try.ntmps8
      go_wp2_with fail
      refine (law_recorded _).mono ?_
      rintro e w1 ⟨rfl, hb1⟩
      go_wp2
      go_ret
      exact ⟨rfl, hb1⟩
    · have h0' : (((n : Nat) : Int) == 0) = false := by rw [beq_eq_false_iff_ne]; omega
      obtain ⟨k0, hk⟩ : ∃ k, k = p % (s.size + 5) := ⟨_, rfl⟩
      have hk1 : k0 ≤ s.size + 4 := by rw [hk]; exact Nat.le_of_lt_succ (Nat.mod_lt _ (by omega))
      have hk2 : (p : Int) % ((s.size : Int) + 12 - 7) = (k0 : Int) := by rw [show (s.size : Int) + 12 - 7 = ((s.size + 5 : Nat) : Int) from by omega, hk, Int.natCast_emod]
      clear hk
      obtain ⟨k, hke⟩ : ∃ k, k = 4 + k0 := ⟨_, rfl⟩
      obtain ⟨T, hT⟩ : ∃ T, T = recL (lb s) := ⟨_, rfl⟩
      have hTl : T.length = s.size + 12 := by rw [hT, length_recL, length_lb]
      have e1 : putR (lb s) = T := by unfold putR; rw [if_neg (by rw [length_lb]; omega), hT]
      have e2 : putE (lb s) = 0 := by unfold putE; rw [if_neg (by rw [length_lb]; omega)]
      have hno : gOk (turnL T k (lowL n)) 0 = false := by rw [hT]; exact turned_rec (lb s) k n (by omega) (by rw [length_lb]; omega) (by rw [length_lb]; omega) hn h0
      have hnA : gA (turnL T k (lowL n)) 0 = [] := by unfold gA; rw [hno]; rfl
      have hnN : gN (turnL T k (lowL n)) 0 = 0 := by unfold gN; rw [hno]; rfl
      have E1 := Lib.hid e1
      have E2 := Lib.hid e2
      have Hno := Lib.hid hno
      have HnA := Lib.hid hnA
      have HnN := Lib.hid hnN
      clear hT e1 e2 hno hnA hnN
      go_enter Try.func8, Try.ntmps8
      go_wp2_with fail
      refine (records_Put _ _ (by omega)).mono ?_
      rintro e w1 ⟨rfl, hb1⟩
      rw [E1.out, E2.out]
      obtain ⟨w2, cap, hrun, hrow, hb2, hcap⟩ := conv_bytes (P := Try.prog) w1 9 42 5 (bs T) Try.underlying9 Try.underlying42 Try.underlying5
      rw [lb_bs] at hrow
      rw [size_bs] at hrun hcap
      have hbw2 : Below w.heap.size w w2 := below_chain hb1 hb2
      obtain ⟨B, hB⟩ : ∃ B, B = w1.heap.size := ⟨_, rfl⟩
      have hB0 : w.heap.size ≤ B := by rw [hB]; exact hb1.size
      rw [← hB] at hrow hrun
      have HB := Lib.hid hB
      clear hB
      go_wp2_with fail
      go_loopw [11] (fun i wr => ∃ j : Nat, j ≤ 4 ∧ i = .int .i64 j ∧ Row wr B 5 (cellsB (turnL T k ((lowL n).take j))) ∧ Below w.heap.size w wr) (fun i _ => 4 - (intOf i).toNat)
      case atStart => exact ⟨0, by omega, rfl, by rw [List.take_zero, turnL_nil]; exact hrow, hbw2⟩
      case round =>
        obtain ⟨j, hj, rfl, hrw, hbr⟩ := hrel
        clear hrow hbw2 hb1 hb2 hrun
        by_cases hlt : j < 4
        · have hin : k + j < T.length := by omega
          have hlen : (cellsB (turnL T k ((lowL n).take j))).length = T.length := by rw [length_cellsB, length_turnL]
          have hcell : wr.cell? ⟨B, k + j, none⟩ = some (.int .u8 (T[k + j].toNat : Int)) := by
            rw [hrw.cell (k + j) (by omega)]
            have := turn_cell T k j n hlt hin
            rw [List.getElem?_eq_getElem (by rw [length_turnL]; omega)] at this
            simp only [cellsB, List.getElem_map, Option.some.injEq] at this ⊢
            rw [this]
          have hfz := hrw.frozen (k + j) (by omega)
          have hset := hrw.set (k + j) (.int .u8 (bits BinOp.xor IntKind.u8 (T[k + j].toNat : Int) ((n : Int) / 2 ^ (8 * j) % 256)))
          rw [turn_round T k j n hlt hin] at hset
          obtain ⟨x, hx⟩ : ∃ x, x = T[k + j] := ⟨_, rfl⟩
          rw [← hx] at hcell hset
          have hbr2 := (hbr.setCell (p := ⟨B, k + j, none⟩) hB0 (.int .u8 (bits BinOp.xor IntKind.u8 (x.toNat : Int) ((n : Int) / 2 ^ (8 * j) % 256))))
          rw [hke] at hcell hfz hset hbr2
          have i1 : (4 : Int) + k0 + j < (s.size : Int) + 12 := by omega
          have Hset := Lib.hid hset
          have Hbr2 := Lib.hid hbr2
          have Hke := Lib.hid hke
          have HTl := Lib.hid hTl
          clear hrw hlen hset hbr2 hx hin hke
          go_wp2_with fail
          go_region
          have hset2 := Hset.out.drew
          have hbr2 := Hbr2.out.drew
          generalize (wr.setCell ⟨B, 4 + k0 + j, none⟩ (.int .u8 (bits BinOp.xor IntKind.u8 (x.toNat : Int) ((n : Int) / 2 ^ (8 * j) % 256)))).drew = w3 at hset2 hbr2 ⊢
          clear Hset hcell hfz Hbr2
          go_wp2
          go_roundw
          case rel => exact ⟨j + 1, by omega, by go_num, by rw [Hke.out]; exact hset2, hbr2⟩
          case measure => simp [intOf]; omega
        · obtain rfl : j = 4 := by omega
          have hrw4 : Row wr B 5 (cellsB (turnL T k (lowL n))) := by simpa [lowL] using hrw
          have hcv := Row.conv (P := Try.prog) (cap := cap) (n := s.size + 12) hrw4 (by rw [length_turnL, hTl]) Try.underlying42 Try.underlying5 Try.underlying9
          have hsz4 : (bs (turnL T k (lowL n))).size ≤ 9223372036854775000 := by rw [size_bs, length_turnL]; omega
          have Hsz4 := Lib.hid hsz4
          clear hrw hrw4 hsz4 hke
          go_wp2_with fail
          refine (records_Get _ _ _ Hsz4.out (by decide)).mono ?_
          rintro e w3 ⟨rfl, hb3⟩
          rw [lb_bs, Hno.out, HnA.out, HnN.out]
          go_wp2_with fail
          refine (law_recorded _).mono ?_
          rintro e w6 ⟨rfl, hb6⟩
          go_wp2
          go_ret
          exact ⟨rfl, below_more (below_more hbr hb3 (Nat.le_refl _)) hb6 (Nat.le_refl _)⟩
  · have hsz' : (1500 : Int) < s.size := by omega
    go_enter Try.func8, Try.ntmps8
    go_wp2_with fail
    refine (law_recorded _).mono ?_
    rintro e w1 ⟨rfl, hb1⟩
    go_wp2
    go_ret
    exact ⟨rfl, hb1⟩
end Go.Proofs.Ytjcdkekmploelaa
