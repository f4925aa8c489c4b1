/-
  Rows.SumsTurnedSaid: a text of which some bits within four bytes are turned over has another sum; what was sealed is no more.
-/
import Derived.Test.YtigjjggkcagkmaaSumsLaw
import Derived.Test.YtigjjggkcagkmaaRegion
namespace Go.Proofs.Ytigjjggkcagkmaa
open Go.RowKit
set_option linter.unusedVariables false

theorem lowL_at (n i : Nat) (hi : i < 4) : lowL n = (lowL n).take i ++ UInt8.ofNat (n / 2 ^ (8 * i) % 256) :: (lowL n).drop (i + 1) := by
  match i, hi with
  | 0, _ => simp [lowL]
  | 1, _ => simp [lowL]
  | 2, _ => simp [lowL]
  | 3, _ => simp [lowL]
theorem lowL_take_succ (n i : Nat) (hi : i < 4) : (lowL n).take (i + 1) = (lowL n).take i ++ [UInt8.ofNat (n / 2 ^ (8 * i) % 256)] := by
  match i, hi with
  | 0, _ => simp [lowL]
  | 1, _ => simp [lowL]
  | 2, _ => simp [lowL]
  | 3, _ => simp [lowL]
theorem turn_round (T : List UInt8) (k i n : Nat) (hi : i < 4) (h : k + i < T.length) :
    (cellsB (turnL T k ((lowL n).take i))).set (k + i) (.int .u8 (bits BinOp.xor IntKind.u8 (T[k + i].toNat : Int) ((n : Int) / 2 ^ (8 * i) % 256))) = cellsB (turnL T k ((lowL n).take (i + 1))) := by
  have hl : ((lowL n).take i).length = i := by simp [lowL]; omega
  have hx := T[k + i].toNat_lt
  have e2 : ((n : Int) / 2 ^ (8 * i) % 256) = ((n / 2 ^ (8 * i) % 256 : Nat) : Int) := by simp
  have hm : n / 2 ^ (8 * i) % 256 < 256 := Nat.mod_lt _ (by omega)
  have e3 : (UInt8.ofNat (n / 2 ^ (8 * i) % 256)).toNat = n / 2 ^ (8 * i) % 256 := by simp
  have h2 := turnL_snoc T k ((lowL n).take i) (UInt8.ofNat (n / 2 ^ (8 * i) % 256)) (by omega)
  simp only [hl] at h2
  rw [lowL_take_succ n i hi, h2, e2, u8_xor_nat _ _ hx hm]
  have e4 : (T[k + i] ^^^ UInt8.ofNat (n / 2 ^ (8 * i) % 256)).toNat = T[k + i].toNat ^^^ (n / 2 ^ (8 * i) % 256) := by rw [UInt8.toNat_xor, e3]
  rw [cellsB_set _ _ _ (by omega) (by have := Nat.xor_lt_two_pow (n := 8) hx hm; omega)]
  congr 2
  apply UInt8.toNat_inj.1
  rw [e4]
  have := Nat.xor_lt_two_pow (n := 8) hx hm
  simp
theorem turn_cell (T : List UInt8) (k i n : Nat) (hi : i < 4) (h : k + i < T.length) : (turnL T k ((lowL n).take i))[k + i]? = some T[k + i] := by
  have hl : ((lowL n).take i).length = i := by simp [lowL]; omega
  have h2 := turnL_get T k ((lowL n).take i) (by omega)
  simp only [hl] at h2
  rw [h2, List.getElem?_eq_getElem h]

set_option maxHeartbeats 2000000 in
theorem SumsTurned_walk (s : ByteArray) (at_ : Int) (by_ : Int) (w : World) (hs : s.size ≤ maxLen) (ha : 0 ≤ at_ ∧ at_ ≤ 65535) (hb : 0 ≤ by_ ∧ by_ ≤ 4294967295) :
    Calls Try.prog 12 #[.string s, .int .u16 at_, .int .u32 by_] w fun e w' => e = .returned (.bool true) ∧ Below w.heap.size w w' := by
  obtain ⟨p, rfl⟩ := Int.eq_ofNat_of_zero_le ha.1
  obtain ⟨n, rfl⟩ := Int.eq_ofNat_of_zero_le hb.1
  have hp : (p : Int) ≤ 65535 := ha.2
  have hn : n < 4294967296 := by omega
  clear ha hb
  by_cases hsz : s.size ≤ 5000
  · have hsz' : ¬ (5000 : Int) < s.size := by omega
    by_cases h0 : n = 0
    · subst h0
      go_enter Try.func12, Try.ntmps12
      go_wp2_with fail
      refine (law_summed _).mono ?_
      rintro e w1 ⟨rfl, hb1⟩
      go_wp2
      go_ret
      exact ⟨rfl, hb1⟩
    · have h0' : (((n : Nat) : Int) == 0) = false := by rw [beq_eq_false_iff_ne]; omega
      obtain ⟨k, hk⟩ : ∃ k, k = p % (s.size + 1) := ⟨_, rfl⟩
      have hk1 : k ≤ s.size := by rw [hk]; exact Nat.le_of_lt_succ (Nat.mod_lt _ (by omega))
      have hk2 : (p : Int) % ((s.size : Int) + 4 - 3) = (k : Int) := by rw [show (s.size : Int) + 4 - 3 = (s.size : Int) + 1 from by omega, hk]; simp
      clear hk
      obtain ⟨T, hT⟩ : ∃ T, T = sealL (lb s) := ⟨_, rfl⟩
      have hTl : T.length = s.size + 4 := by rw [hT, sealL_length, length_lb]
      have HT := Lib.hid hT
      clear hT
      go_enter Try.func12, Try.ntmps12
      go_wp2_with fail
      refine (sums_Seal _ _ (by omega)).mono ?_
      rintro e w1 ⟨rfl, hb1⟩
      rw [← HT.out]
      obtain ⟨w2, cap, hrun, hrow, hb2, hcap⟩ := conv_bytes (P := Try.prog) w1 9 50 5 (bs T) Try.underlying9 Try.underlying50 Try.underlying5
      rw [lb_bs] at hrow
      rw [size_bs] at hrun hcap
      have hbw2 : Below w.heap.size w w2 := below_chain hb1 hb2
      obtain ⟨B, hB⟩ : ∃ B, B = w1.heap.size := ⟨_, rfl⟩
      have hB0 : w.heap.size ≤ B := by rw [hB]; exact hb1.size
      rw [← hB] at hrow hrun
      have HB := Lib.hid hB
      clear hB
      go_wp2_with fail
      go_loopw [9] (fun i wr => ∃ j : Nat, j ≤ 4 ∧ i = .int .i64 j ∧ Row wr B 5 (cellsB (turnL T k ((lowL n).take j))) ∧ Below w.heap.size w wr) (fun i _ => 4 - (intOf i).toNat)
      case atStart => exact ⟨0, by omega, rfl, by rw [List.take_zero, turnL_nil]; exact hrow, hbw2⟩
      case round =>
        obtain ⟨j, hj, rfl, hrw, hbr⟩ := hrel
        clear hrow hbw2 hb1 hb2 hrun
        by_cases hlt : j < 4
        · have hin : k + j < T.length := by omega
          have hlen : (cellsB (turnL T k ((lowL n).take j))).length = T.length := by rw [length_cellsB, length_turnL]
          have hcell : wr.cell? ⟨B, k + j, none⟩ = some (.int .u8 (T[k + j].toNat : Int)) := by
            rw [hrw.cell (k + j) (by omega)]
            have := turn_cell T k j n hlt hin
            rw [List.getElem?_eq_getElem (by rw [length_turnL]; omega)] at this
            simp only [cellsB, List.getElem_map, Option.some.injEq] at this ⊢
            rw [this]
          have hfz := hrw.frozen (k + j) (by omega)
          have i1 : (k : Int) + j < (s.size : Int) + 4 := by omega
          have Hrw := Lib.hid hrw
          have Hlen := Lib.hid hlen
          have HTl := Lib.hid hTl
          clear hrw hlen
          go_wp2_with fail
          go_region
          have hset := Hrw.out.set (k + j) (.int .u8 (bits BinOp.xor IntKind.u8 (T[k + j].toNat : Int) ((n : Int) / 2 ^ (8 * j) % 256)))
          rw [turn_round T k j n hlt hin] at hset
          have hset2 := hset.drew
          have hbr2 := (hbr.setCell (p := ⟨B, k + j, none⟩) hB0 (.int .u8 (bits BinOp.xor IntKind.u8 (T[k + j].toNat : Int) ((n : Int) / 2 ^ (8 * j) % 256)))).drew
          generalize (wr.setCell ⟨B, k + j, none⟩ (.int .u8 (bits BinOp.xor IntKind.u8 (T[k + j].toNat : Int) ((n : Int) / 2 ^ (8 * j) % 256)))).drew = w3 at hset2 hbr2 ⊢
          clear hset hcell hfz Hrw Hlen
          go_wp2
          go_roundw
          case rel => exact ⟨j + 1, by omega, by go_num, hset2, hbr2⟩
          case measure => simp [intOf]; omega
        · obtain rfl : j = 4 := by omega
          have hrw4 : Row wr B 5 (cellsB (turnL T k (lowL n))) := by simpa [lowL] using hrw
          have hcv := Row.conv (P := Try.prog) (cap := cap) (n := s.size + 4) hrw4 (by rw [length_turnL, hTl]) Try.underlying50 Try.underlying5 Try.underlying9
          have hno : openOk (turnL T k (lowL n)) = false := by rw [HT.out]; exact turned_seal (lb s) k n (by rw [length_lb]; exact hk1) hn h0
          have hnA : openA (turnL T k (lowL n)) = [] := by unfold openA; rw [hno]; rfl
          have hsz4 : (bs (turnL T k (lowL n))).size ≤ 9223372036854775000 := by rw [size_bs, length_turnL]; omega
          have Hno := Lib.hid hno
          have HnA := Lib.hid hnA
          have Hsz4 := Lib.hid hsz4
          clear hrw hrw4 hno hnA hsz4
          go_wp2_with fail
          refine (sums_Open _ _ Hsz4.out).mono ?_
          rintro e w3 ⟨rfl, hb3⟩
          rw [lb_bs, Hno.out, HnA.out]
          obtain ⟨w4, cap4, hrun4, hrow4, hb4, hcap4⟩ := conv_bytes (P := Try.prog) w3 9 50 5 s Try.underlying9 Try.underlying50 Try.underlying5
          have hbw4 : Below w.heap.size w w4 := below_more (below_more hbr hb3 (Nat.le_refl _)) hb4 (Nat.le_refl _)
          obtain ⟨B4, hB4⟩ : ∃ B, B = w3.heap.size := ⟨_, rfl⟩
          have hB40 : w.heap.size ≤ B4 := by rw [hB4]; exact Nat.le_trans hbr.size hb3.size
          rw [← hB4] at hrow4 hrun4
          have HB4 := Lib.hid hB4
          clear hB4 hcv
          go_wp2_with fail
          go_loopw [13] (fun i wr => ∃ j : Nat, j ≤ 4 ∧ i = .int .i64 j ∧ Row wr B4 5 (cellsB (turnL (lb s) k ((lowL n).take j))) ∧ Below w.heap.size w wr) (fun i _ => 4 - (intOf i).toNat)
          case atStart => exact ⟨0, by omega, rfl, by rw [List.take_zero, turnL_nil]; exact hrow4, hbw4⟩
          case round =>
            obtain ⟨j, hj, rfl, hrw, hbr⟩ := hrel
            clear hrow4 hbw4 hb3 hb4 hrun4
            by_cases hlt2 : j < 4 ∧ k + j < s.size
            · obtain ⟨hl4, hin'⟩ := hlt2
              have hin : k + j < (lb s).length := by rw [length_lb]; exact hin'
              have hlen : (cellsB (turnL (lb s) k ((lowL n).take j))).length = s.size := by rw [length_cellsB, length_turnL, length_lb]
              have hcell : wr.cell? ⟨B4, k + j, none⟩ = some (.int .u8 ((lb s)[k + j].toNat : Int)) := by
                rw [hrw.cell (k + j) (by omega)]
                have := turn_cell (lb s) k j n hl4 hin
                rw [List.getElem?_eq_getElem (by rw [length_turnL]; omega)] at this
                simp only [cellsB, List.getElem_map, Option.some.injEq] at this ⊢
                rw [this]
              have hfz := hrw.frozen (k + j) (by omega)
              obtain ⟨x, hx⟩ : ∃ x, x = (lb s)[k + j] := ⟨_, rfl⟩
              rw [← hx] at hcell
              have hset := hrw.set (k + j) (.int .u8 (bits BinOp.xor IntKind.u8 (x.toNat : Int) ((n : Int) / 2 ^ (8 * j) % 256)))
              rw [hx, turn_round (lb s) k j n hl4 hin, ← hx] at hset
              have i1 : (k : Int) + j < (s.size : Int) := by omega
              have Hset := Lib.hid hset
              clear hrw hlen hset hx hin
              go_wp2_with fail
              go_region
              have hset2 := Hset.out.drew
              have hbr2 := (hbr.setCell (p := ⟨B4, k + j, none⟩) hB40 (.int .u8 (bits BinOp.xor IntKind.u8 (x.toNat : Int) ((n : Int) / 2 ^ (8 * j) % 256)))).drew
              generalize (wr.setCell ⟨B4, k + j, none⟩ (.int .u8 (bits BinOp.xor IntKind.u8 (x.toNat : Int) ((n : Int) / 2 ^ (8 * j) % 256)))).drew = w5 at hset2 hbr2 ⊢
              clear Hset hcell hfz
              go_wp2
              go_roundw
              case rel => exact ⟨j + 1, by omega, by go_num, hset2, hbr2⟩
              case measure => simp [intOf]; omega
            · obtain ⟨U, hU⟩ : ∃ U, U = turnL (lb s) k (lowL n) := ⟨_, rfl⟩
              have hUl : U.length = s.size := by rw [hU, length_turnL, length_lb]
              have e1 : turnL (lb s) k ((lowL n).take j) = U := by
                rw [hU]
                by_cases h4 : j = 4
                · subst h4; simp [lowL]
                · exact turnL_end _ _ _ _ (by rw [length_lb]; omega)
              rw [e1] at hrw
              have hor : U = lb s ∨ (U ≠ lb s ∧ sumL U ≠ sumL (lb s)) := by
                by_cases h1 : U = lb s
                · exact .inl h1
                · exact .inr ⟨h1, fun h2 => h1 (by rw [hU] at h2 ⊢; exact turned_sum _ _ _ h2)⟩
              have hcv := Row.conv (P := Try.prog) (cap := cap4) (n := s.size) hrw hUl Try.underlying50 Try.underlying5 Try.underlying9
              have hszU : (bs U).size ≤ maxLen := by rw [size_bs, hUl]; exact hs
              have HszU := Lib.hid hszU
              clear e1 hU hszU hrw
              have hcs : (j : Int) < 4 ∧ (s.size : Int) ≤ (k : Int) + j ∨ ¬ (j : Int) < 4 := by omega
              rcases hor with h1 | ⟨h1, h2⟩
              · have hsame : (U == s.toList) = true := by rw [toList_lb, h1]; simp
                clear h1
                rcases hcs with ⟨hc1, hc2⟩ | hc1
                all_goals
                  go_wp2_with fail
                  refine (law_summed _).mono ?_
                  rintro e w6 ⟨rfl, hb6⟩
                  go_wp2
                  go_ret
                  exact ⟨rfl, below_more hbr hb6 (Nat.le_refl _)⟩
              · have hsame : (U == s.toList) = false := by rw [toList_lb, beq_eq_false_iff_ne]; exact h1
                have hne : (((sumL U : Nat) : Int) != ((sumL (lb s) : Nat) : Int)) = true := by rw [bne_iff_ne]; omega
                clear h1
                rcases hcs with ⟨hc1, hc2⟩ | hc1
                all_goals
                  go_wp2_with fail
                  refine (sums_Sum _ _ HszU.out).mono ?_
                  rintro e w' ⟨rfl, rfl⟩
                  rw [lb_bs]
                  go_wp2_with fail
                  refine (sums_Sum _ _ hs).mono ?_
                  rintro e w' ⟨rfl, rfl⟩
                  go_wp2_with fail
                  refine (law_summed _).mono ?_
                  rintro e w6 ⟨rfl, hb6⟩
                  go_wp2
                  go_ret
                  exact ⟨rfl, below_more hbr hb6 (Nat.le_refl _)⟩
  · have hsz' : (5000 : Int) < s.size := by omega
    go_enter Try.func12, Try.ntmps12
    go_wp2_with fail
    refine (law_summed _).mono ?_
    rintro e w1 ⟨rfl, hb1⟩
    go_wp2
    go_ret
    exact ⟨rfl, hb1⟩
end Go.Proofs.Ytigjjggkcagkmaa
