/-
  Rows.BloomsLessSaid: a hash is there just if all its probes are bits that are set; of none it has none of more than 0 probes; with a bit that it asks turned off it is not.
-/
import Derived.Test.YtpoeginnoocenaaBloomsHas
namespace Go.Proofs.Ytpoeginnoocenaa
open Go.RowKit
set_option linter.unusedVariables false

theorem bit_walk1 (x : Nat) (r : Nat) : (((x : Int) / 2 ^ r).tmod 2 == 1) = (x / 2 ^ r % 2 == 1) := by
  have e : (x : Int) / 2 ^ r = ((x / 2 ^ r : Nat) : Int) := by simp
  rw [e, show (2 : Int) = ((2 : Nat) : Int) from rfl, ← Int.ofNat_tmod]
  rcases Nat.mod_two_eq_zero_or_one (x / 2 ^ r) with h | h <;> rw [h] <;> rfl
theorem off_bit : ∀ r, r < 8 → ∀ x, x < 256 → ((x &&& (255 - 2 ^ r)) / 2 ^ r % 2 == 1) = false := by decide +kernel
theorem off_lt : ∀ r, r < 8 → ∀ x, x < 256 → (x &&& (255 - 2 ^ r)) < 256 := by decide +kernel
def allOnL (l : List UInt8) (h k : Nat) : Bool := (List.range k).all fun i => bitL l (prN h i (8 * l.length))
theorem allOnL_succ (l : List UInt8) (h k : Nat) : allOnL l h (k + 1) = (allOnL l h k && bitL l (prN h k (8 * l.length))) := by
  unfold allOnL
  rw [List.range_succ, List.all_append]; simp
theorem hasL_allOn (l : List UInt8) (h k : Nat) (hl : l ≠ []) (hk : k ≤ 64) : hasL l (k : Int) h = allOnL l h k := by
  unfold hasL allOnL
  have : manyN (k : Int) = k := by unfold manyN; omega
  rw [this]
  cases l with
  | nil => exact absurd rfl hl
  | cons a l => rfl
theorem hasL_none (q P h : Nat) (hq : 0 < q) (hP : 0 < P) (n : Int) (hP64 : P ≤ 64) : hasL (packL (onB [] n (8 * q)) q) (P : Int) h = false := by
  refine hasL_no (i := 0) (by intro e; have := length_packL (onB [] n (8 * q)) q; rw [e] at this; simp at this; omega) (by unfold manyN; omega) ?_
  rw [length_packL, bitL_packL _ _ _ (prN_lt h 0 (by omega))]
  rfl
/-- With a bit that it asks turned off it is there no more. -/
theorem hasL_turned (l : List UInt8) (P h i : Nat) (hi : i < P) (hP : P ≤ 64) (h0 : 0 < l.length) (x : Nat) (hx : x < 256) :
    hasL (l.set (prN h i (8 * l.length) / 8) (UInt8.ofNat (x &&& (255 - 2 ^ (prN h i (8 * l.length) % 8))))) (P : Int) h = false := by
  have hlt := prN_lt h i (show 0 < 8 * l.length by omega)
  refine hasL_no (i := i) (by intro e; have h9 := congrArg List.length e; rw [List.length_set, List.length_nil] at h9; omega) (by unfold manyN; omega) ?_
  rw [List.length_set]
  generalize prN h i (8 * l.length) = b at *
  unfold bitL
  rw [List.getD_eq_getElem?_getD, List.getElem?_set_self (by omega), Option.getD_some]
  have hr : b % 8 < 8 := by omega
  have e : (UInt8.ofNat (x &&& (255 - 2 ^ (b % 8)))).toNat = (x &&& (255 - 2 ^ (b % 8))) := by
    rw [UInt8.toNat_ofNat']
    exact Nat.mod_eq_of_lt (off_lt (b % 8) hr x hx)
  rw [e]
  exact off_bit (b % 8) hr x hx

set_option maxHeartbeats 4000000 in
theorem BloomsLess_walk (v : Value) (l : List Nat) (h : Int) (v3 : Value) (n : Int × Int) (w : World) (hv : U64s w v l) (hh : 0 ≤ h ∧ h ≤ 18446744073709551615) (hv3 : PairIs v3 n) :
    Calls Try.prog 6 #[v, .int .u64 h, v3] w fun e w' => e = .returned (.bool true) ∧ Below w.heap.size w w' := by
  obtain ⟨h, rfl⟩ := Int.eq_ofNat_of_zero_le hh.1
  have hh64 : h < 18446744073709551616 := by have := hh.2; omega
  obtain ⟨n0, n1⟩ := n
  obtain ⟨rfl, hn0, hn1⟩ := hv3
  dsimp only at hn0 hn1 ⊢
  obtain ⟨m0, rfl⟩ := Int.eq_ofNat_of_zero_le hn0.1
  obtain ⟨m1, rfl⟩ := Int.eq_ofNat_of_zero_le hn1.1
  have h0 : m0 ≤ 255 := by have := hn0.2; omega
  have h1 : m1 ≤ 255 := by have := hn1.2; omega
  obtain ⟨A, c, rfl, hc1, hc2, -, -⟩ := id hv.1
  unfold maxLen at hc2
  clear hn0 hn1 hh
  have hc := fun w' => lit_cells w #[.int .u8 (m0 : Int), .int .u8 (m1 : Int)] 32 0 (.int .u8 (m0 : Int)) rfl w'
  have hd := fun w' => lit_cells w #[.int .u8 (m0 : Int), .int .u8 (m1 : Int)] 32 1 (.int .u8 (m1 : Int)) rfl w'
  have hb0 := below_lit w (.cells #[.int .u8 (m0 : Int), .int .u8 (m1 : Int)] 32)
  have hl0 := hv.next hb0
  by_cases hsz : l.length ≤ 60
  · have s1' : ¬ (60 : Int) < l.length := by omega
    obtain ⟨P, hP⟩ : ∃ P, P = 1 + m0 % 16 := ⟨_, rfl⟩
    have hP1 : 1 ≤ P ∧ P ≤ 16 := by omega
    have hP2 : (1 : Int) + (m0 : Int) % 16 = (P : Int) := by omega
    obtain ⟨q, hq⟩ : ∃ q, q = 1 + m1 % 64 := ⟨_, rfl⟩
    have hq1 : 1 ≤ q ∧ q ≤ 64 := by omega
    have hq2 : (1 : Int) + (m1 : Int) % 64 = (q : Int) := by omega
    obtain ⟨i0, hi0⟩ : ∃ i, i = m1 % P := ⟨_, rfl⟩
    have hi1 : i0 < P := by rw [hi0]; exact Nat.mod_lt _ (by omega)
    have hi2 : (m1 : Int) % (P : Int) = (i0 : Int) := by rw [hi0, Int.natCast_emod]
    have hea := makeL_q l (P : Int) q (by omega) (by omega)
    have heb := makeL_q [] (P : Int) q (by omega) (by omega)
    rw [show ((8 * q : Nat) : Int) = 8 * (q : Int) from by omega] at hea heb
    have hnone := hasL_none q P h (by omega) (by omega) (P : Int) (by omega)
    have hla := length_packL (onB l (P : Int) (8 * q)) q
    have hlb := length_packL (onB [] (P : Int) (8 * q)) q
    generalize packL (onB l (P : Int) (8 * q)) q = LA at *
    generalize packL (onB [] (P : Int) (8 * q)) q = LB at *
    have hall : hasL LA (P : Int) h = allOnL LA h P := hasL_allOn LA h P (by intro e; rw [e] at hla; simp at hla; omega) (by omega)
    have hzero : hasL LA 0 h = true := hasL_yes (by intro e; rw [e] at hla; simp at hla; omega) (fun i hi => by unfold manyN at hi; simp at hi)
    have hturn := fun x hx => hasL_turned LA P h i0 hi1 (by omega) (by omega) x hx
    rw [hla] at hturn
    have hsucc := fun k => allOnL_succ LA h k
    rw [hla] at hsucc
    have cz0 := hc _ (Below.refl _ _)
    have cz1 := hd _ (Below.refl _ _)
    have u0 : (m0 : Int) ≤ 255 := by omega
    have u1 : (m1 : Int) ≤ 255 := by omega
    have Hea := Lib.hid hea
    have Heb := Lib.hid heb
    have Hall := Lib.hid hall
    have Hzero := Lib.hid hzero
    have Hnone := Lib.hid hnone
    have Hturn := Lib.hid hturn
    have Hsucc := Lib.hid hsucc
    have Hd := Lib.hid hd
    clear hea heb hall hzero hnone hturn hsucc hc hd hP hq hv hi0
    go_enter Try.func6, Try.ntmps6
    go_wp2_with fail
    go_quiet (fail)
    go_wp2_with fail
    have hb1 : Below w.heap.size w ((w.alloc (.cells #[.int .u8 (m0 : Int), .int .u8 (m1 : Int)] 32)).drewN nq) := below_drewN hb0 _
    have hL1 : U64s ((w.alloc (.cells #[.int .u8 (m0 : Int), .int .u8 (m1 : Int)] 32)).drewN nq) (.slice A l.length c) l := hl0.next (below_drewN (Below.refl _ _) _)
    have hd1 : ∀ w', Below ((w.alloc (.cells #[.int .u8 (m0 : Int), .int .u8 (m1 : Int)] 32)).drewN nq).heap.size ((w.alloc (.cells #[.int .u8 (m0 : Int), .int .u8 (m1 : Int)] 32)).drewN nq) w' → w'.cell? ⟨w.heap.size, 1, none⟩ = some (.int .u8 (m1 : Int)) := fun w' hb => Hd.out w' (below_chain (below_drewN (Below.refl _ _) _) hb)
    generalize ((w.alloc (.cells #[.int .u8 (m0 : Int), .int .u8 (m1 : Int)] 32)).drewN nq) = w1 at hb1 hL1 hd1 ⊢
    have Hd1 := Lib.hid hd1
    clear hb0 hl0 cz0 cz1 Hd hd1
    refine (blooms_Make _ _ _ _ _ hL1 (by omega) (by omega) (by omega)).mono ?_
    rintro e w2 ⟨rfl, hb2⟩
    rw [Hea.out]
    obtain ⟨w3, cap, hrun, hrow, hb3, hcap⟩ := conv_bytes (P := Try.prog) w2 9 34 5 (bs LA) Try.underlying9 Try.underlying34 Try.underlying5
    rw [lb_bs] at hrow
    rw [size_bs, hla] at hrun hcap
    have hbw2 := hb2
    obtain ⟨B, hB⟩ : ∃ B, B = w2.heap.size := ⟨_, rfl⟩
    have h1B : w1.heap.size ≤ B := by rw [hB]; exact hb2.size
    rw [← hB] at hrow hrun
    have hbw3 : Below w1.heap.size w1 w3 := below_chain hb2 hb3
    have HB := Lib.hid hB
    clear hB hb3 hb2 hL1
    go_wp2_with fail
    go_loopw [10, 11] (fun al i wr => ∃ k : Nat, k ≤ P ∧ i = .int .i64 k ∧ al = .bool (allOnL LA h k) ∧ Row wr B 5 (cellsB LA) ∧ Below w1.heap.size w1 wr) (fun _ i _ => P - (intOf i).toNat)
    case atStart => exact ⟨0, by omega, rfl, rfl, hrow, hbw3⟩
    case round =>
      obtain ⟨k, hk, rfl, rfl, hrow, hbr⟩ := hrel
      clear hbw3 hrun
      by_cases hlt : k < P
      · have hq0 : 0 < 8 * q := by omega
        have ep := prB_nat h k (8 * q) hq0
        have hlt2 := prN_lt h k hq0
        rw [show ((8 * q : Nat) : Int) = 8 * (q : Int) from by omega] at ep
        have hsu := Hsucc.out k
        obtain ⟨b, hb⟩ : ∃ b, b = prN h k (8 * q) := ⟨_, rfl⟩
        rw [← hb] at ep hlt2 hsu
        have hq8 : b / 8 < (cellsB LA).length := by rw [length_cellsB]; omega
        have hcx := hrow.cell _ hq8
        rw [cellsB_getElem] at hcx
        obtain ⟨x, hx⟩ : ∃ x : UInt8, x = LA[b / 8]'(by simpa using hq8) := ⟨_, rfl⟩
        rw [← hx] at hcx
        have hbit : bitL LA b = (x.toNat / 2 ^ (b % 8) % 2 == 1) := by
          unfold bitL
          rw [List.getD_eq_getElem?_getD, List.getElem?_eq_getElem (by simpa using hq8), Option.getD_some, ← hx]
        have hw := bit_walk1 x.toNat (b % 8)
        rw [← hbit] at hw
        have i1 : (k : Int) < P := by omega
        have j1 : (b : Int) / 8 < q := by omega
        have j2 : (0 : Int) ≤ (b : Int) / 8 := by omega
        have j3 : (0 : Int) ≤ (b : Int) % 8 := by omega
        have j4 : (b : Int) % 8 ≤ 7 := by omega
        have d1 : decide (8 * (q : Int) ≤ (b : Int)) = false := by rw [decide_eq_false_iff_not]; omega
        have Hep := Lib.hid ep
        have Hsu := Lib.hid hsu
        have Hrow := Lib.hid hrow
        clear ep hsu hb hx hbit hq8 hrow
        generalize bitL LA b = bt at hw Hsu
        rcases hal : allOnL LA h k with _ | _
        · have Hal := Lib.hid hal
          clear hal
          go_wp2_with fail
          refine (blooms_Probe _ _ _ _ hh64 (by omega) (by omega)).mono ?_
          rintro e w' ⟨rfl, rfl⟩
          rw [Hep.out]
          go_wp2
          go_roundw
          case rel => exact ⟨k + 1, by omega, by go_num, by rw [Hsu.out, Hal.out]; rfl, Hrow.out, hbr⟩
          case measure => simp [intOf]; omega
        · have Hal := Lib.hid hal
          clear hal
          go_wp2_with fail
          refine (blooms_Probe _ _ _ _ hh64 (by omega) (by omega)).mono ?_
          rintro e w' ⟨rfl, rfl⟩
          rw [Hep.out]
          go_wp2
          go_roundw
          case rel => exact ⟨k + 1, by omega, by go_num, by rw [Hsu.out, Hal.out]; rfl, Hrow.out, hbr⟩
          case measure => simp [intOf]; omega
      · obtain rfl : k = P := by omega
        have hcv := Row.conv (P := Try.prog) (cap := cap) (n := q) hrow hla Try.underlying34 Try.underlying5 Try.underlying9
        have sA : (bs LA).size ≤ 1000000000 := by rw [size_bs]; omega
        have sB : (bs LB).size ≤ 1000000000 := by rw [size_bs]; omega
        have SA := Lib.hid sA
        have SB := Lib.hid sB
        have hq0 : 0 < 8 * q := by omega
        have ep := prB_nat h i0 (8 * q) hq0
        have hlt2 := prN_lt h i0 hq0
        rw [show ((8 * q : Nat) : Int) = 8 * (q : Int) from by omega] at ep
        have htu := Hturn.out
        obtain ⟨b, hb⟩ : ∃ b, b = prN h i0 (8 * q) := ⟨_, rfl⟩
        rw [← hb] at ep hlt2 htu
        have hq8 : b / 8 < (cellsB LA).length := by rw [length_cellsB]; omega
        have j1 : (b : Int) / 8 < q := by omega
        have j2 : (0 : Int) ≤ (b : Int) / 8 := by omega
        have j3 : (0 : Int) ≤ (b : Int) % 8 := by omega
        have j4 : (b : Int) % 8 ≤ 7 := by omega
        have hk0 : ((k : Int) == 0) = false := by rw [beq_eq_false_iff_ne]; omega
        have Hep := Lib.hid ep
        have Htu := Lib.hid htu
        have Hrow := Lib.hid hrow
        clear sA sB ep htu hb hrow Hturn
        generalize allOnL LA h k = AL at Hall ⊢
        go_wp2_with fail
        refine (blooms_Has _ _ _ _ SA.out (by omega) hh64).mono ?_
        rintro e w6 ⟨rfl, hb6⟩
        rw [lb_bs, Hall.out]
        have hbw6 := below_more hbr hb6 (Nat.le_refl _)
        go_wp2_with fail
        refine (ex_MakeNil _ _ LB.toArray _ (by omega) (by omega) (by rw [Heb.out])).mono ?_
        rintro e w7 ⟨rfl, hb7⟩
        have hbw7 := below_more hbw6 hb7 (Nat.le_refl _)
        go_wp2_with fail
        refine (blooms_Has _ _ _ _ SB.out (by omega) hh64).mono ?_
        rintro e w8 ⟨rfl, hb8⟩
        rw [lb_bs, Hnone.out]
        have hbw8 := below_more hbw7 hb8 (Nat.le_refl _)
        have hrow8 := ((Hrow.out.next hb6).next hb7).next hb8
        have hcv8 := Row.conv (P := Try.prog) (cap := cap) (n := q) hrow8 hla Try.underlying34 Try.underlying5 Try.underlying9
        go_wp2_with fail
        refine (blooms_Has _ _ _ _ SA.out (by decide) hh64).mono ?_
        rintro e w9 ⟨rfl, hb9⟩
        rw [lb_bs, Hzero.out]
        have hbw9 := below_more hbw8 hb9 (Nat.le_refl _)
        have hrow9 := hrow8.next hb9
        have hc19 := Hd1.out w9 hbw9
        clear hcv8 hrow8 hcv hbw8 hbw7 hbw6
        go_wp2_with fail
        refine (blooms_Probe _ _ _ _ hh64 (by omega) (by omega)).mono ?_
        rintro e w' ⟨rfl, rfl⟩
        rw [Hep.out]
        have hcx := hrow9.cell _ hq8
        rw [cellsB_getElem] at hcx
        have hfz := hrow9.frozen _ hq8
        obtain ⟨x, hx⟩ : ∃ x : UInt8, x = LA[b / 8]'(by simpa using hq8) := ⟨_, rfl⟩
        rw [← hx] at hcx
        have hxl := x.toNat_lt
        have hbr8 : b % 8 < 8 := by omega
        have h7 : (2 : Nat) ^ (b % 8) ≤ 2 ^ 7 := Nat.pow_le_pow_right (by omega) (by omega)
        have ebits : bits BinOp.andNot IntKind.u8 (x.toNat : Int) (2 ^ (b % 8) % 256) = ((x.toNat &&& (255 - 2 ^ (b % 8)) : Nat) : Int) := by
          rw [two_pow_mod hbr8, u8_andNot_nat _ _ hxl (by omega)]
        have hol := off_lt (b % 8) hbr8 x.toNat hxl
        have hset := hrow9.set (b / 8) (.int .u8 (bits BinOp.andNot IntKind.u8 (x.toNat : Int) (2 ^ (b % 8) % 256)))
        rw [ebits, cellsB_set _ _ _ (by omega) (by omega), Int.toNat_natCast, ← ebits] at hset
        have hbs := hbw9.setCell (p := ⟨B, b / 8, none⟩) h1B (.int .u8 (bits BinOp.andNot IntKind.u8 (x.toNat : Int) (2 ^ (b % 8) % 256)))
        have htu := Htu.out x.toNat hxl
        obtain ⟨LT, hLT⟩ : ∃ LT, LT = LA.set (b / 8) (UInt8.ofNat (x.toNat &&& (255 - 2 ^ (b % 8)))) := ⟨_, rfl⟩
        have hlt9 : LT.length = q := by rw [hLT, List.length_set, hla]
        rw [← hLT] at hset htu
        have Hset := Lib.hid hset
        have Hbs := Lib.hid hbs
        have Htu9 := Lib.hid htu
        clear hset hbs htu hLT ebits hx hol h7 hrow9 hbw9 hlt
        go_wp2_with fail
        go_region
        have hrow10 := Hset.out.drew
        have hbw10 := Hbs.out.drew
        generalize (w9.setCell ⟨B, b / 8, none⟩ (.int .u8 (bits BinOp.andNot IntKind.u8 (x.toNat : Int) (2 ^ (b % 8) % 256)))).drew = w10 at hrow10 hbw10 ⊢
        have hcv10 := Row.conv (P := Try.prog) (cap := cap) (n := q) hrow10 hlt9 Try.underlying34 Try.underlying5 Try.underlying9
        have sT : (bs LT).size ≤ 1000000000 := by rw [size_bs]; omega
        have ST := Lib.hid sT
        clear Hset Hbs hrow10 sT hcx hfz
        go_wp2_with fail
        refine (blooms_Has _ _ _ _ ST.out (by omega) hh64).mono ?_
        rintro e w11 ⟨rfl, hb11⟩
        rw [lb_bs, Htu9.out]
        go_wp2_with fail
        refine (law_bloomed _).mono ?_
        rintro e w12 ⟨rfl, hb12⟩
        go_wp2
        go_ret
        exact ⟨rfl, below_chain hb1 (below_more (below_more hbw10 hb11 (Nat.le_refl _)) hb12 (Nat.le_refl _))⟩
  · have s1 : (60 : Int) < l.length := by omega
    go_enter Try.func6, Try.ntmps6
    go_wp2_with fail
    refine (law_bloomed _).mono ?_
    rintro e w1 ⟨rfl, hb1⟩
    go_wp2
    go_ret
    exact ⟨rfl, below_chain hb0 hb1⟩
end Go.Proofs.Ytpoeginnoocenaa
