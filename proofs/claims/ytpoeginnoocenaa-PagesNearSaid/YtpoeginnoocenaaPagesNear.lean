/-
  Rows.PagesNearSaid: so it is, without a premise, where each page of a file has bits within four bytes alone that are turned over.
-/
import Derived.Test.YtpoeginnoocenaaPagesMay
import Derived.Test.YtpoeginnoocenaaPage9
import Derived.Test.YtpoeginnoocenaaBloomMake
import Derived.Test.YtpoeginnoocenaaBloomsHas
import Derived.Test.YtpoeginnoocenaaOpenSix
namespace Go.Proofs.Ytpoeginnoocenaa
open Go.RowKit
set_option linter.unusedVariables false

theorem near_cells (a : List Nat) (S : List UInt8) (n i : Nat) (x : Nat) (hx : a.getD n 0 = x) (hi : i < 4) (hlen : 64 * n + 64 ≤ S.length) (z : UInt8)
    (hz : z = (turnL (nearN a S n) (64 * n + nearJ x) ((nearD x).take i)).getD (64 * n + nearJ x + i) 0) :
    (cellsB (turnL (nearN a S n) (64 * n + nearJ x) ((nearD x).take i))).set (64 * n + nearJ x + i) (.int .u8 (bits BinOp.xor IntKind.u8 (z.toNat : Int) ((x : Int) / 2 ^ (7 * i) % 256)))
      = cellsB (turnL (nearN a S n) (64 * n + nearJ x) ((nearD x).take (i + 1))) := by
  subst hz
  have hj : nearJ x ≤ 60 := by unfold nearJ; omega
  have hs := near_step a S n i (nearJ x) x hx hi hlen
  generalize hT : turnL (nearN a S n) (64 * n + nearJ x) ((nearD x).take i) = T at hs ⊢
  have hTl : T.length = S.length := by rw [← hT, length_turnL, length_nearN]
  rw [← hs]
  have e2 : ((x : Int) / 2 ^ (7 * i) % 256) = ((x / 2 ^ (7 * i) % 256 : Nat) : Int) := by simp
  have hm : x / 2 ^ (7 * i) % 256 < 256 := Nat.mod_lt _ (by omega)
  have e3 : (UInt8.ofNat (x / 2 ^ (7 * i) % 256)).toNat = x / 2 ^ (7 * i) % 256 := by simp
  generalize T.getD (64 * n + nearJ x + i) 0 = z
  have hz := z.toNat_lt
  rw [e2, u8_xor_nat _ _ hz hm]
  have e4 : (z ^^^ UInt8.ofNat (x / 2 ^ (7 * i) % 256)).toNat = z.toNat ^^^ (x / 2 ^ (7 * i) % 256) := by rw [UInt8.toNat_xor, e3]
  rw [cellsB_set _ _ _ (by omega) (by have := Nat.xor_lt_two_pow (n := 8) hz hm; omega)]
  congr 2
  apply UInt8.toNat_inj.1
  rw [e4]
  have := Nat.xor_lt_two_pow (n := 8) hz hm
  simp
set_option maxRecDepth 100000 in
set_option maxHeartbeats 4000000 in
theorem PagesNear_walk (v : Value) (l : List Nat) (v3 : Value) (n : Int × Int) (vx : Value) (a : List Nat) (w : World) (hv : U64s w v l) (hv3 : PairIs v3 n) (hx : SixIs vx a) :
    Calls Try.prog 12 #[v, v3, vx] w fun e w' => e = .returned (.bool true) ∧ Below w.heap.size w w' := by
  obtain ⟨n0, n1⟩ := n
  obtain ⟨rfl, hn0, hn1⟩ := hv3
  dsimp only at hn0 hn1 ⊢
  obtain ⟨m0, rfl⟩ := Int.eq_ofNat_of_zero_le hn0.1
  obtain ⟨m1, rfl⟩ := Int.eq_ofNat_of_zero_le hn1.1
  have h0 : m0 ≤ 255 := by have := hn0.2; omega
  have h1 : m1 ≤ 255 := by have := hn1.2; omega
  obtain ⟨A, c, rfl, hc1, hc2, -, -⟩ := id hv.1
  obtain ⟨rfl, hx6, hxb⟩ := hx
  clear hn0 hn1 hc2
  by_cases hl : 60 < l.length
  · have i2 : (60 : Int) < l.length := by omega
    clear hv hxb hx6
    go_enter Try.func12, Try.ntmps12
    go_wp2_with fail
    refine (law_paged _).mono ?_
    rintro e w1 ⟨rfl, hb1⟩
    go_wp2
    go_ret
    exact ⟨rfl, below_chain ((below_lit _ _)) (below_chain (below_lit _ _) hb1)⟩
  · have i2 : ¬ (60 : Int) < l.length := by omega
    have hrA := Row.new w #[.int .u8 (m0 : Int), .int .u8 (m1 : Int)] 32
    have hbA := (Below.refl w.heap.size w).alloc (Nat.le_refl _) (.cells #[.int .u8 (m0 : Int), .int .u8 (m1 : Int)] 32)
    have hsA : (w.alloc (.cells #[.int .u8 (m0 : Int), .int .u8 (m1 : Int)] 32)).heap.size = w.heap.size + 1 := Array.size_push _
    have hrB : Row ((w.alloc (.cells #[.int .u8 (m0 : Int), .int .u8 (m1 : Int)] 32)).alloc (.cells (u32C a).toArray 56)) (w.alloc (.cells #[.int .u8 (m0 : Int), .int .u8 (m1 : Int)] 32)).heap.size 56 (u32C a) := Row.new (w.alloc (.cells #[.int .u8 (m0 : Int), .int .u8 (m1 : Int)] 32)) (u32C a).toArray 56
    have hbB := (Below.refl _ (w.alloc (.cells #[.int .u8 (m0 : Int), .int .u8 (m1 : Int)] 32))).alloc (Nat.le_refl _) (.cells (u32C a).toArray 56)
    have hrA2 := hrA.next hbB
    have hb2 := below_chain hbA hbB
    rw [hsA] at hrB
    clear hbA hbB hrA hsA
    have cz0 := hrA2.cell 0 (by simp)
    have cz1 := hrA2.cell 1 (by simp)
    simp only [List.getElem_cons_zero, List.getElem_cons_succ] at cz0 cz1
    generalize hAr : (u32C a).toArray = Ar at hrB hrA2 hb2 cz0 cz1 ⊢
    clear hAr
    go_enter Try.func12, Try.ntmps12
    go_wp2_with fail
    generalize ((w.alloc (Obj.cells #[Value.int IntKind.u8 (m0 : Int), Value.int IntKind.u8 (m1 : Int)] 32)).alloc (Obj.cells Ar 56)) = w0 at hrA2 hrB hb2 ⊢
    obtain ⟨P, hP⟩ : ∃ P, P = 1 + m0 % 16 := ⟨_, rfl⟩
    have hP1 : 1 ≤ P ∧ P ≤ 16 := by omega
    have hP2 : 1 + (m0 : Int) % 16 = (P : Int) := by omega
    obtain ⟨M, hM⟩ : ∃ M, M = 1 + m1 % 5 := ⟨_, rfl⟩
    have hM1 : 1 ≤ M ∧ M ≤ 5 := by omega
    have hM2 : 480 * (1 + (m1 : Int) % 5) = ((480 * M : Nat) : Int) := by omega
    try rw [hP2]
    try rw [hM2]
    have hv0 := hv.next hb2
    refine (blooms_Make (.slice A l.length c) l (P : Int) ((480 * M : Nat) : Int) _ hv0 (by omega) (by omega) (by omega)).mono ?_
    rintro e w1 ⟨rfl, hb1⟩
    have hML : (makeL l (P : Int) ((480 * M : Nat) : Int)).length = 60 * M := by rw [made_len l P M hM1, length_packL]
    have hFL := fileP_len hML (by omega) hP1
    have hIN : ∀ h ∈ l, mayF (nearN a (fileP (makeL l (P : Int) ((480 * M : Nat) : Int)) (P : Int)) (M + 1)) h = true :=
      fun h hh => near_may a hML (by omega) hP1 (made_has l P M h hM1 hh).2
    have cPut := fun w => pages_Put (bs (makeL l (P : Int) ((480 * M : Nat) : Int))) (P : Int) w (by rw [size_bs]; omega) (by omega)
    rw [lb_bs] at cPut
    generalize makeL l (P : Int) ((480 * M : Nat) : Int) = MK at *
    generalize fileP MK (P : Int) = FP at *
    obtain ⟨u, hu⟩ : ∃ u, u = bs FP := ⟨_, rfl⟩
    have lu : lb u = FP := by rw [hu, lb_bs]
    have su : u.size = 64 * (M + 1) := by rw [← length_lb, lu, hFL]
    rw [← hu] at cPut
    clear hu hFL hML
    subst lu
    have hv1 := hv0.next hb1
    have hrB1 := hrB.next hb1
    have hb01 := below_chain hb2 hb1
    have HIN := Lib.hid hIN
    have k1 : ¬ (u.size : Int) < 128 := by omega
    have k3 : ¬ u.size < 128 := by omega
    have HSU := Lib.hid su
    clear hb1 hb2 hv0 hv hIN cz0 cz1 hP2 hM2 hP hM hl hrA2 hrB su
    go_wp2_with fail
    refine (cPut _).mono ?_
    rintro e wP ⟨rfl, hb3⟩
    clear cPut
    obtain ⟨w2, cap, hrun, hrow, hbc, hcap⟩ := conv_bytes (P := Try.prog) wP 9 34 5 u Try.underlying9 Try.underlying34 Try.underlying5
    have hvP := Lib.hid (hv1.next hb3)
    have hrP := Lib.hid (hrB1.next hb3)
    have hb0P := Lib.hid (below_chain hb01 hb3)
    obtain ⟨G, hG⟩ : ∃ G, G = wP.heap.size := ⟨_, rfl⟩
    have hG0 : wP.heap.size ≤ G := by omega
    rw [← hG] at hrow hrun
    have HG := Lib.hid hG
    clear hG hv1 hrB1 hb3 hb01
    go_wp2_with fail
    have Hcap := Lib.hid hcap
    clear hcap hrun
    have hsz := HSU.out
    have HM1 := Lib.hid hM1
    have HX6 := Lib.hid hx6
    have HXB := Lib.hid hxb
    clear hsz hM1 hx6 hxb hP1 h0 h1 hc1 k1 k3
    go_loopw [9] (fun i wr => ∃ p : Nat, p ≤ M + 1 ∧ i = .int .i64 p ∧ Row wr G 5 (cellsB (nearN a (lb u) p)) ∧ Below wP.heap.size wP wr) (fun i _ => M + 1 - (intOf i).toNat)
    case atStart => exact ⟨0, by omega, rfl, hrow, hbc⟩
    case round =>
      obtain ⟨p, hp, rfl, hrw, hbr⟩ := hrel
      clear hrow hbc
      by_cases hlt : p < M + 1
      · obtain ⟨wo, rfl⟩ : ∃ x, x = wr := ⟨_, rfl⟩
        have hw : wrap64 ((u.size : Int) / 64) = (M : Int) + 1 := by have := HSU.out; have := HM1.out; unfold wrap64; omega
        have q1 : (p : Int) < (M : Int) + 1 := by omega
        have hpl : p < a.length := by have := HX6.out; have := HM1.out; omega
        have q2 : (p : Int) < 6 := by have := HX6.out; omega
        have hcB := (hrP.out.next hbr).cell p (by unfold u32C; rw [List.length_map]; exact hpl)
        simp only [u32C, List.getElem_map] at hcB
        have hxl := HXB.out a[p] (List.getElem_mem hpl)
        have hxd : a.getD p 0 = a[p] := by rw [List.getD_eq_getElem?_getD, List.getElem?_eq_getElem hpl]; rfl
        generalize a[p] = x at hcB hxl hxd
        have hcB2 : ∀ w', Below wP.heap.size wP w' → w'.cell? ⟨w.heap.size + 1, p, none⟩ = some (.int .u32 (x : Int)) := fun w' hb => by
          have := (hrP.out.next hb).cell p (by unfold u32C; rw [List.length_map]; exact hpl)
          simp only [u32C, List.getElem_map] at this
          rw [this, ← hxd, List.getD_eq_getElem?_getD, List.getElem?_eq_getElem hpl]; rfl
        have HXL := Lib.hid hxl
        have HXD := Lib.hid hxd
        have HB2 := Lib.hid hcB2
        have HLT := Lib.hid hlt
        have HRW := Lib.hid hrw
        have HBR := Lib.hid hbr
        obtain ⟨K, hK⟩ : ∃ K, K = 64 * p + nearJ x := ⟨_, rfl⟩
        have hK1 : K + 4 ≤ u.size := by have := HSU.out; unfold nearJ at hK; omega
        have hK2 : wrap64 (64 * (p : Int) + (wrap64 ((x : Int) / 256)).tmod 61) = (K : Int) := by
          have e1 : wrap64 ((x : Int) / 256) = ((x / 256 : Nat) : Int) := by unfold wrap64; omega
          have e2 : (((x / 256 : Nat) : Int)).tmod 61 = ((x / 256 % 61 : Nat) : Int) := by rw [Int.tmod_eq_emod_of_nonneg (by omega)]; omega
          have := HX6.out
          rw [e1, e2, hK]
          unfold nearJ
          unfold wrap64
          omega
        have HK1 := Lib.hid hK1
        have HK := Lib.hid hK
        clear hxl hxd hcB2 hp hlt hpl hrw hbr hK1 hK
        go_wp2_with fail
        rw [hK2]
        clear hK2 hw q1
        go_loopw [11] (fun i wr => ∃ j : Nat, j ≤ 4 ∧ i = .int .i64 j ∧ Row wr G 5 (cellsB (turnL (nearN a (lb u) p) K ((nearD x).take j))) ∧ Below wP.heap.size wP wr) (fun i _ => 4 - (intOf i).toNat)
        case atStart => exact ⟨0, by omega, rfl, by rw [List.take_zero, turnL_nil]; exact HRW.out, HBR.out⟩
        case round =>
          obtain ⟨j, hj, rfl, hrw, hbr⟩ := hrel
          by_cases hj4 : j < 4
          · have j4 : (j : Int) < 4 := by omega
            have hin : K + j < u.size := by have := HK1.out; omega
            have hTl : (turnL (nearN a (lb u) p) K ((nearD x).take j)).length = u.size := by rw [length_turnL, length_nearN, length_lb]
            have hcell : wr.cell? ⟨G, K + j, none⟩ = some (.int .u8 (((turnL (nearN a (lb u) p) K ((nearD x).take j)).getD (K + j) 0).toNat : Int)) := by
              rw [hrw.cell (K + j) (by rw [length_cellsB]; omega), cellsB_getElem, List.getD_eq_getElem?_getD, List.getElem?_eq_getElem (by omega)]; rfl
            have hfz := hrw.frozen (K + j) (by rw [length_cellsB]; omega)
            have hset : ∀ z : UInt8, z = (turnL (nearN a (lb u) p) K ((nearD x).take j)).getD (K + j) 0 → Row (wr.setCell ⟨G, K + j, none⟩ (.int .u8 (bits BinOp.xor IntKind.u8 (z.toNat : Int) ((x : Int) / 2 ^ (7 * j) % 256)))) G 5 (cellsB (turnL (nearN a (lb u) p) K ((nearD x).take (j + 1)))) := fun z hz => by
              have h := hrw.set (K + j) (.int .u8 (bits BinOp.xor IntKind.u8 (z.toNat : Int) ((x : Int) / 2 ^ (7 * j) % 256)))
              have hKe := HK.out
              subst hKe
              rw [near_cells a (lb u) p j x HXD.out hj4 (by have := HSU.out; have := HLT.out; rw [length_lb]; omega) z hz] at h
              exact h
            generalize hz : (turnL (nearN a (lb u) p) K ((nearD x).take j)).getD (K + j) 0 = z at hcell
            have hset1 := Lib.hid (hset z hz.symm).drew
            have hsb := Lib.hid (hbr.setCell (p := ⟨G, K + j, none⟩) hG0 (.int .u8 (bits BinOp.xor IntKind.u8 (z.toNat : Int) ((x : Int) / 2 ^ (7 * j) % 256)))).drew
            have hcB := HB2.out _ hbr
            have q3 : (K : Int) + j < u.size := by omega
            have HJ := Lib.hid hj4
            have q5 : (K : Int) ≤ 400 := by have := HK1.out; have := HSU.out; have := HM1.out; omega
            clear hset hz hTl hin hrw hbr hj hj4
            go_wp2_with fail
            go_region
            go_wp2
            go_roundw
            case rel => exact ⟨j + 1, by have := HJ.out; omega, by go_num, hset1.out, hsb.out⟩
            case measure => have := HJ.out; simp [intOf]; omega
          · obtain rfl : j = 4 := by omega
            have hdone : Row wr G 5 (cellsB (nearN a (lb u) (p + 1))) := by
              have := hrw
              rw [HK.out, ← HXD.out, near_done] at this
              exact this
            have HD := Lib.hid hdone
            have HB := Lib.hid hbr
            clear hrw hbr hdone
            go_wp2
            go_roundw
            case rel => exact ⟨p + 1, by have := HLT.out; omega, by go_num, HD.out, HB.out⟩
            case measure => have := HLT.out; simp [intOf]; omega
      · obtain rfl : p = M + 1 := by omega
        have hw : wrap64 ((u.size : Int) / 64) = (M : Int) + 1 := by have := HSU.out; have := HM1.out; unfold wrap64; omega
        have hcv := Row.conv (P := Try.prog) (cap := cap) (n := u.size) hrw (by rw [length_nearN, length_lb]) Try.underlying34 Try.underlying5 Try.underlying9
        have hSz : (nearN a (lb u) (M + 1)).length ≤ 400 := by rw [length_nearN, length_lb, HSU.out]; have := HM1.out; omega
        generalize nearN a (lb u) (M + 1) = S at *
        have cL := fun w => pages_Load (bs S) w (by rw [size_bs]; omega)
        have cM := fun v w h (hf : FilterV w v S) (hh : h < 18446744073709551616) => pages_May v S h w hf hh
        rw [lb_bs] at cL
        have CM := Lib.hid cM
        have CL := Lib.hid cL
        clear cM cL hSz hrw hp hlt HM1 HSU
        go_wp2_with fail
        refine (CL.out _).mono ?_
        rintro e w4 ⟨F, rfl, hf, hb4⟩
        clear CL hcv hw
        have hbr4 := below_more hbr hb4 (Nat.le_refl _)
        obtain ⟨ga, gb, gc, rfl⟩ := hf.shape
        have hf0 := Lib.hid hf
        clear hf
        go_wp2_with fail
        have hrow := Row.new w4 #[.int .i64 ga, .int .i64 gb, .map gc] 42
        have hbl := (Below.refl w4.heap.size w4).alloc (Nat.le_refl _) (.cells #[.int .i64 ga, .int .i64 gb, .map gc] 42)
        obtain ⟨R, hR⟩ : ∃ R, R = w4.heap.size := ⟨_, rfl⟩
        rw [← hR] at hrow
        try rw [← hR]
        generalize w4.alloc (.cells #[.int .i64 ga, .int .i64 gb, .map gc] 42) = w5 at hrow hbl ⊢
        clear hR
        have hbr5 := below_more hbr4 hbl (Nat.le_refl _)
        have hf5 := Lib.hid (hf0.out.next hbl)
        have hv5 := Lib.hid (hvP.out.next hbr5)
        have Hb5 := Lib.hid (below_chain hb0P.out hbr5)
        have Hrow := Lib.hid hrow
        clear hb0P hbl hvP hf0 hrow hbr4 hbr5 hb4 hbr HG hG0 hrP HX6 HXB
        go_loopw [13] (fun i wr => ∃ k : Nat, k ≤ l.length ∧ i = .int .i64 k ∧ Below w5.heap.size w5 wr) (fun i _ => l.length - (intOf i).toNat)
        case atStart => exact ⟨0, by omega, rfl, Below.refl _ _⟩
        case round =>
          obtain ⟨k, hk, rfl, hbr⟩ := hrel
          by_cases hlt : k < l.length
          · obtain ⟨bL, off, rfl, -, -, -, hcell⟩ := hv5.out.1.at_ (by omega)
            have j3 : (k : Int) < l.length := by omega
            have hc9 : ∀ w', Below w5.heap.size w5 w' → w'.cell? ⟨bL, off + k, none⟩ = some (.int .u64 (l[k] : Nat)) := fun w' hb => (hcell w' hb k (by simp; omega)).trans (by simp [u64C])
            have hh := hv5.out.2 l[k] (List.getElem_mem hlt)
            have hin := HIN.out l[k] (List.getElem_mem hlt)
            generalize l[k] = h at hc9 hh hin
            have x0 : ∀ x : Later wr, x.it.cell? ⟨bL, off + k, none⟩ = some (.int .u64 (h : Int)) := fun x => hc9 _ (below_more hbr x.ok (Nat.le_refl _))
            have rr : ∀ x : Later wr, Row x.it R 42 [.int .i64 ga, .int .i64 gb, .map gc] := fun x => Hrow.out.next (below_more hbr x.ok (Nat.le_refl _))
            have y0 : ∀ x : Later wr, x.it.cell? ⟨R, 0, none⟩ = some (.int .i64 ga) := fun x => (row_aggP (rr x)).1
            have y1 : ∀ x : Later wr, x.it.cell? ⟨R, 1, none⟩ = some (.int .i64 gb) := fun x => (row_aggP (rr x)).2.1
            have y2 : ∀ x : Later wr, x.it.cell? ⟨R, 2, none⟩ = some (.map gc) := fun x => (row_aggP (rr x)).2.2.1
            have Hff : ∀ x : Later wr, FilterV x.it (.agg #[.int .i64 ga, .int .i64 gb, .map gc]) S := fun x => hf5.out.next (below_more hbr x.ok (Nat.le_refl _))
            have cMy : ∀ x : Later wr, Calls Try.prog 25 #[.agg #[.int .i64 ga, .int .i64 gb, .map gc], .int .u64 h] x.it fun e w' => e = .returned (.bool true) ∧ Below x.it.heap.size x.it w' := fun x => by
              have := CM.out _ _ h (Hff x) hh
              rwa [hin] at this
            have CMY := Lib.hid cMy
            have HLT := Lib.hid hlt
            clear rr Hff hc9 hh hin cMy hlt hcell
            go_wp2_with fail
            refine wp_region_below (by kernel_rfl) (by kernel_rfl) ?_
            repeat (first | go_big_quiet_skip | (go_big_quiet_want; go_big_quiet_op; go_big_quiet_on) | (go_big_quiet_want; go_big_quiet_op; apply Exists.intro; refine ⟨fun x => ?_, ?_⟩; (go_at_call 25; exact calls_below x (CMY.out x)); go_big_quiet_on))
            refine wpQuiet_nil ?_
            intro _ hx
            obtain ⟨⟨w6, hb6⟩, rfl⟩ := hx
            go_wp2
            go_roundw
            case rel => exact ⟨k + 1, by have := HLT.out; omega, by go_num, below_more hbr hb6 (Nat.le_refl _)⟩
            case measure => have := HLT.out; simp [intOf]; omega
          · obtain rfl : k = l.length := by omega
            clear hk hlt
            go_wp2_with fail
            refine (law_paged _).mono ?_
            rintro e w6 ⟨rfl, hb6⟩
            go_wp2
            go_ret
            exact ⟨rfl, below_chain Hb5.out (below_more hbr hb6 (Nat.le_refl _))⟩
end Go.Proofs.Ytpoeginnoocenaa
