/-
  Rows.BloomsHasSaid: each hash that was made is there; with more hashes no bit is off that was set.
-/
import Derived.Test.YtpoeginnoocenaaOpenB
import Derived.Test.YtpoeginnoocenaaBloomMore
import Derived.Test.YtpoeginnoocenaaAppend
namespace Go.Proofs.Ytpoeginnoocenaa
open Go.RowKit
set_option linter.unusedVariables false

theorem infoU64 : (Try.prog.info? 22).map (fun i => (i.zero, i.size, i.bytes)) = some (some (.int .u64 0), 1, 8) := by kernel_rfl
theorem u64C_one (l : List Nat) : ∀ u ∈ u64C l, u.oneCell' = true := by
  intro u hu
  obtain ⟨n, _, rfl⟩ := List.mem_map.1 hu
  rfl
theorem makeL_q (l : List Nat) (n : Int) (q : Nat) (h0 : 0 < q) (h1 : q ≤ 125000) : makeL l n ((8 * q : Nat) : Int) = packL (onB l n (8 * q)) q := by
  unfold makeL
  rw [if_neg (by omega)]; congr 1 <;> omega

theorem bs_get (l : List UInt8) (k : Nat) (h : k < (bs l).size) : (bs l)[k] = l.getD k 0 := by
  have h' : k < l.length := by rw [size_bs] at h; exact h
  rw [List.getD_eq_getElem?_getD, List.getElem?_eq_getElem h', Option.getD_some]
  rfl

set_option maxHeartbeats 4000000 in
theorem BloomsHas_walk (v : Value) (l : List Nat) (v2 : Value) (more : List Nat) (v3 : Value) (n : Int × Int) (w : World) (hv : U64s w v l) (hv2 : U64s w v2 more) (hv3 : PairIs v3 n) :
    Calls Try.prog 5 #[v, v2, v3] w fun e w' => e = .returned (.bool true) ∧ Below w.heap.size w w' := by
  obtain ⟨n0, n1⟩ := n
  obtain ⟨rfl, hn0, hn1⟩ := hv3
  dsimp only at hn0 hn1 ⊢
  obtain ⟨m0, rfl⟩ := Int.eq_ofNat_of_zero_le hn0.1
  obtain ⟨m1, rfl⟩ := Int.eq_ofNat_of_zero_le hn1.1
  have h0 : m0 ≤ 255 := by have := hn0.2; omega
  have h1 : m1 ≤ 255 := by have := hn1.2; omega
  obtain ⟨A, c, rfl, hc1, hc2, -, -⟩ := id hv.1
  obtain ⟨A2, c2, rfl, hc3, hc4, -, -⟩ := id hv2.1
  unfold maxLen at hc2 hc4
  clear hn0 hn1
  have hc := fun w' => lit_cells w #[.int .u8 (m0 : Int), .int .u8 (m1 : Int)] 32 0 (.int .u8 (m0 : Int)) rfl w'
  have hd := fun w' => lit_cells w #[.int .u8 (m0 : Int), .int .u8 (m1 : Int)] 32 1 (.int .u8 (m1 : Int)) rfl w'
  have hb0 := below_lit w (.cells #[.int .u8 (m0 : Int), .int .u8 (m1 : Int)] 32)
  have hl0 := hv.next hb0
  have hl2 := hv2.next hb0
  by_cases hsz : l.length ≤ 60 ∧ more.length ≤ 20
  · obtain ⟨s1, s2⟩ := hsz
    have s1' : ¬ (60 : Int) < l.length := by omega
    have s2' : ¬ (20 : Int) < more.length := by omega
    obtain ⟨P, hP⟩ : ∃ P, P = m0 % 20 := ⟨_, rfl⟩
    have hP1 : P ≤ 19 := by omega
    have hP2 : (m0 : Int) % 20 = (P : Int) := by rw [hP, Int.natCast_emod]; congr 1
    obtain ⟨q, hq⟩ : ∃ q, q = 1 + m1 := ⟨_, rfl⟩
    have hq2 : (8 : Int) * (1 + (m1 : Int)) = ((8 * q : Nat) : Int) := by omega
    have hq1 : 1 ≤ q ∧ q ≤ 256 := by omega
    have hea := makeL_q l (P : Int) q (by omega) (by omega)
    have heb := makeL_q (l ++ more) (P : Int) q (by omega) (by omega)
    have hin : ∀ h ∈ l, hasL (packL (onB l (P : Int) (8 * q)) q) (P : Int) h = true ∧ hasL (packL (onB (l ++ more) (P : Int) (8 * q)) q) (P : Int) h = true := fun h hh =>
      ⟨has_made l _ q h (by omega) _ (fun b hb => hb) hh, has_made l _ q h (by omega) _ (fun b hb => onB_more l more _ _ b hb) hh⟩
    have hbel : ∀ j, j < q → ((packL (onB l (P : Int) (8 * q)) q).getD j 0).toNat &&& ((packL (onB (l ++ more) (P : Int) (8 * q)) q).getD j 0).toNat = ((packL (onB l (P : Int) (8 * q)) q).getD j 0).toNat := by
      intro j hj
      rw [List.getD_eq_getElem?_getD, List.getD_eq_getElem?_getD, List.getElem?_eq_getElem (by simpa using hj), List.getElem?_eq_getElem (by simpa using hj), Option.getD_some, Option.getD_some, packL_toNat, packL_toNat]
      exact byte8_below _ _ fun i hi => onB_more l more _ _ _ hi
    rw [show ((8 * q : Nat) : Int) = 8 * (q : Int) from by omega] at hea heb
    have hla := length_packL (onB l (P : Int) (8 * q)) q
    have hlb := length_packL (onB (l ++ more) (P : Int) (8 * q)) q
    generalize packL (onB l (P : Int) (8 * q)) q = LA at *
    generalize packL (onB (l ++ more) (P : Int) (8 * q)) q = LB at *
    obtain ⟨i0, hi0, hz0, hz1, hz2⟩ := info_parts infoU64
    have cz0 := hc _ (Below.refl _ _)
    have cz1 := hd _ (Below.refl _ _)
    have u0 : (m0 : Int) ≤ 255 := by omega
    have u1 : (m1 : Int) ≤ 255 := by omega
    have Hea := Lib.hid hea
    have Heb := Lib.hid heb
    have Hin := Lib.hid hin
    have Hbel := Lib.hid hbel
    clear hea heb hin hbel hc hd hP hq hv hv2
    go_enter Try.func5, Try.ntmps5
    go_wp2_with fail
    go_quiet (fail)
    go_wp2_with fail
    simp only [hP2]
    have hb1 : Below w.heap.size w ((w.alloc (.cells #[.int .u8 (m0 : Int), .int .u8 (m1 : Int)] 32)).drewN nq) := below_drewN hb0 _
    have hL1 : U64s ((w.alloc (.cells #[.int .u8 (m0 : Int), .int .u8 (m1 : Int)] 32)).drewN nq) (.slice A l.length c) l := hl0.next (below_drewN (Below.refl _ _) _)
    have hL2 : U64s ((w.alloc (.cells #[.int .u8 (m0 : Int), .int .u8 (m1 : Int)] 32)).drewN nq) (.slice A2 more.length c2) more := hl2.next (below_drewN (Below.refl _ _) _)
    generalize ((w.alloc (.cells #[.int .u8 (m0 : Int), .int .u8 (m1 : Int)] 32)).drewN nq) = w1 at hb1 hL1 hL2 ⊢
    clear hb0 hl0 hl2 cz0 cz1
    refine (blooms_Make _ _ _ _ _ hL1 (by omega) (by omega) (by omega)).mono ?_
    rintro e w2 ⟨rfl, hb2⟩
    rw [Hea.out]
    have hM1 := hL1.next hb2
    have hM2 := hL2.next hb2
    have hbw2 := below_more hb1 hb2 (Nat.le_refl _)
    have hown0 : w2.ownsRow w2.heap.size 22 1 (.slice none 0 0) 0 [] := World.ownsRow_nil _ _ _ _
    go_wp2_with (first
      | (at_builtin; refine wpList_append_reads _ rfl _ _ 28 rfl w2.heap.size 22 i0 (.int .u64 0) 1 8 Try.underlying28 hi0 hz0 hz1 hz2 rfl (by decide) (.slice none 0 0) 0 [] rfl hown0 _ _ _ rfl hM1.1 (u64C_one _) (by unfold maxLen; omega) (by omega) (Nat.le_refl _) ?_; intro v3 w3 hown3 hg3; have hb3 : Below w2.heap.size w2 w3 := (Below.refl _ _).grown hg3 (Nat.le_refl _) (own_block_ge hown0); have hM3 := hM2.next hb3)
      | (at_builtin; refine wpList_append_reads _ rfl _ _ 28 rfl w2.heap.size 22 i0 (.int .u64 0) 1 8 Try.underlying28 hi0 hz0 hz1 hz2 rfl (by decide) v3 _ _ rfl hown3 _ _ _ rfl hM3.1 (u64C_one _) (by unfold maxLen; omega) (by omega) hb3.size ?_; intro v4 w4 hown4 hg4; have hb4 : Below w2.heap.size w2 w4 := hb3.grown hg4 hb3.size (own_block_ge hown3)))
    have hU4 : U64s w4 v4 (l ++ more) := by
      refine ⟨?_, fun h hh => (List.mem_append.1 hh).elim (hL1.2 h) (hL2.2 h)⟩
      have := Reads.of_own hown4
      rw [List.length_append]
      simpa [u64C, Nat.zero_add] using this
    refine (blooms_Make _ _ _ _ _ hU4 (by rw [List.length_append]; omega) (by omega) (by omega)).mono ?_
    rintro e w5 ⟨rfl, hb5⟩
    rw [Heb.out]
    have hbw5 : Below w1.heap.size w1 w5 := below_chain hb2 (below_chain hb4 hb5)
    have sA : (bs LA).size ≤ 1000000000 := by rw [size_bs]; omega
    have sB : (bs LB).size ≤ 1000000000 := by rw [size_bs]; omega
    have SA := Lib.hid sA
    have SB := Lib.hid sB
    have HM1 := Lib.hid hL1
    clear sA sB hown4 hg4 hown3 hg3 hown0 hM3 hM2 hM1 hU4 hL2 hb2 hb3 hb4 hb5 hbw2 hL1
    have nla : (LA.length : Int) = q := by omega
    have nlb : (LB.length : Int) = q := by omega
    go_wp2_with fail
    go_loopw [11] (fun i wr => ∃ k : Nat, k ≤ l.length ∧ i = .int .i64 k ∧ Below w1.heap.size w1 wr) (fun i _ => l.length - (intOf i).toNat)
    case atStart => exact ⟨0, by omega, rfl, hbw5⟩
    case round =>
      obtain ⟨k, hk, rfl, hbr⟩ := hrel
      by_cases hlt : k < l.length
      · obtain ⟨b, off, rfl, -, -, -, hcell⟩ := HM1.out.1.at_ (by omega)
        have hcx : ∀ w', Below w1.heap.size w1 w' → w'.cell? ⟨b, off + k, none⟩ = some (.int .u64 (l[k] : Nat)) := fun w' h => (hcell w' h k (by simp; omega)).trans (by simp [u64C])
        have hh := HM1.out.2 l[k] (List.getElem_mem hlt)
        have hin := Hin.out l[k] (List.getElem_mem hlt)
        generalize l[k] = h at hcx hh hin
        have c0 := hcx wr hbr
        have i1 : (k : Int) < l.length := by omega
        have Hi := Lib.hid hin
        have Hcx := Lib.hid hcx
        clear hin hcell hcx
        go_wp2_with fail
        refine (blooms_Has _ _ _ _ SA.out (by omega) hh).mono ?_
        rintro e w6 ⟨rfl, hb6⟩
        rw [lb_bs, Hi.out.1]
        have hbw6 := below_more hbr hb6 (Nat.le_refl _)
        have c6 := Hcx.out w6 hbw6
        go_wp2_with fail
        refine (blooms_Has _ _ _ _ SB.out (by omega) hh).mono ?_
        rintro e w7 ⟨rfl, hb7⟩
        rw [lb_bs, Hi.out.2]
        go_wp2
        go_roundw
        case rel => exact ⟨k + 1, by omega, by go_num, below_more hbw6 hb7 (Nat.le_refl _)⟩
        case measure => simp [intOf]; omega
      · obtain rfl : k = l.length := by omega
        go_wp2_with fail
        go_loopw [12] (fun i wr => ∃ k : Nat, k ≤ q ∧ i = .int .i64 k ∧ Below w1.heap.size w1 wr) (fun i _ => q - (intOf i).toNat)
        case atStart => exact ⟨0, by omega, rfl, hbr⟩
        case round =>
          obtain ⟨k, hk, rfl, hbr⟩ := hrel
          by_cases hlt : k < q
          · have i1 : (k : Int) < q := by omega
            have i2 : k < LA.length := by omega
            have i3 : k < LB.length := by omega
            have j2 : k < (bs LA).size := by rw [size_bs]; exact i2
            have j3 : k < (bs LB).size := by rw [size_bs]; exact i3
            have hb9 : (bits BinOp.and IntKind.u8 (((bs LA)[k]'j2).toNat : Int) (((bs LB)[k]'j3).toNat : Int) != (((bs LA)[k]'j2).toNat : Int)) = false := by
              rw [bs_get LA k j2, bs_get LB k j3, u8_and_nat _ _ (UInt8.toNat_lt _) (UInt8.toNat_lt _), Hbel.out k hlt]
              simp
            go_wp2_with fail
            go_quiet (fail)
            go_wp2
            go_roundw
            case rel => exact ⟨k + 1, by omega, by go_num, below_drewN hbr _⟩
            case measure => simp [intOf]; omega
          · obtain rfl : k = q := by omega
            go_wp2_with fail
            refine (law_bloomed _).mono ?_
            rintro e w6 ⟨rfl, hb6⟩
            go_wp2
            go_ret
            exact ⟨rfl, below_chain hb1 (below_more hbr hb6 (Nat.le_refl _))⟩
  · rcases (show (60 : Int) < l.length ∨ (¬ (60 : Int) < l.length ∧ (20 : Int) < more.length) from by omega) with s1 | ⟨s1, s2⟩
    all_goals
      clear hsz
      go_enter Try.func5, Try.ntmps5
      go_wp2_with fail
      refine (law_bloomed _).mono ?_
      rintro e w1 ⟨rfl, hb1⟩
      go_wp2
      go_ret
      exact ⟨rfl, below_chain hb0 hb1⟩
end Go.Proofs.Ytpoeginnoocenaa
