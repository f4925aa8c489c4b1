/-
  Rows.PagesKeepSaid: however a filter's file is spoilt, each hash that was made may be there, as long as what is sealed is as it was.
-/
import Derived.Test.YtpoeginnoocenaaPagesMay
import Derived.Test.YtpoeginnoocenaaPage8
import Derived.Test.YtpoeginnoocenaaBloomMake
import Derived.Test.YtpoeginnoocenaaBloomsHas
import Derived.Test.YtpoeginnoocenaaOpenSpoilt
namespace Go.Proofs.Ytpoeginnoocenaa
open Go.RowKit
set_option linter.unusedVariables false

theorem extract_pg (s : ByteArray) (k : Nat) : lb (s.extract (64 * k) (64 * k + 64)) = pgN (lb s) k := by
  rw [bs_extract, lb_bs]
  unfold pgN
  rw [show 64 * k + 64 - 64 * k = 64 by omega]
set_option maxRecDepth 100000 in
set_option maxHeartbeats 4000000 in
theorem PagesKeep_walk (v : Value) (l : List Nat) (v3 : Value) (n : Int × Int) (vx : Value) (x : List Nat × List UInt8 × Nat × ByteArray) (w : World) (hv : U64s w v l) (hv3 : PairIs v3 n) (hx : SpoiltIs w vx x) :
    Calls Try.prog 11 #[v, v3, vx] w fun e w' => e = .returned (.bool true) ∧ Below w.heap.size w w' := by
  obtain ⟨n0, n1⟩ := n
  obtain ⟨rfl, hn0, hn1⟩ := hv3
  dsimp only at hn0 hn1 ⊢
  obtain ⟨m0, rfl⟩ := Int.eq_ofNat_of_zero_le hn0.1
  obtain ⟨m1, rfl⟩ := Int.eq_ofNat_of_zero_le hn1.1
  have h0 : m0 ≤ 255 := by have := hn0.2; omega
  have h1 : m1 ≤ 255 := by have := hn1.2; omega
  obtain ⟨A, c, rfl, hc1, hc2, -, -⟩ := id hv.1
  obtain ⟨a, b, cut, t⟩ := x
  obtain ⟨va, vb, rfl, hxs⟩ := id hx
  obtain ⟨Aa, ca, rfl, -⟩ := id hxs.1
  obtain ⟨Ab, cb, rfl, -⟩ := id hxs.2.1
  clear hn0 hn1 hc2 hxs
  by_cases hl : 60 < l.length
  · have i2 : (60 : Int) < l.length := by omega
    clear hv hx
    go_enter Try.func11, Try.ntmps11
    go_wp2_with fail
    refine (law_paged _).mono ?_
    rintro e w1 ⟨rfl, hb1⟩
    go_wp2
    go_ret
    exact ⟨rfl, below_chain ((below_lit _ _)) (below_chain (below_lit _ _) hb1)⟩
  · have i2 : ¬ (60 : Int) < l.length := by omega
    have hrA := Row.new w #[.int .u8 (m0 : Int), .int .u8 (m1 : Int)] 32
    have hbA := (Below.refl w.heap.size w).alloc (Nat.le_refl _) (.cells #[.int .u8 (m0 : Int), .int .u8 (m1 : Int)] 32)
    have hsA : (w.alloc (.cells #[.int .u8 (m0 : Int), .int .u8 (m1 : Int)] 32)).heap.size = w.heap.size + 1 := Array.size_push _
    have hrB := Row.new (w.alloc (.cells #[.int .u8 (m0 : Int), .int .u8 (m1 : Int)] 32)) #[.slice Aa a.length ca, .slice Ab b.length cb, .int .u16 (cut : Int), .string t] 50
    have hbB := (Below.refl _ (w.alloc (.cells #[.int .u8 (m0 : Int), .int .u8 (m1 : Int)] 32))).alloc (Nat.le_refl _) (.cells #[.slice Aa a.length ca, .slice Ab b.length cb, .int .u16 (cut : Int), .string t] 50)
    have hrA2 := hrA.next hbB
    have hb2 := below_chain hbA hbB
    rw [hsA] at hrB
    clear hbA hbB hrA hsA
    have cz0 := hrA2.cell 0 (by simp)
    have cz1 := hrA2.cell 1 (by simp)
    simp only [List.getElem_cons_zero, List.getElem_cons_succ] at cz0 cz1
    go_enter Try.func11, Try.ntmps11
    go_wp2_with fail
    generalize ((w.alloc (Obj.cells #[Value.int IntKind.u8 (m0 : Int), Value.int IntKind.u8 (m1 : Int)] 32)).alloc (Obj.cells #[Value.slice Aa a.length ca, Value.slice Ab b.length cb, Value.int IntKind.u16 (cut : Int), Value.string t] 50)) = w0 at hrA2 hrB hb2 ⊢
    obtain ⟨P, hP⟩ : ∃ P, P = 1 + m0 % 16 := ⟨_, rfl⟩
    have hP1 : 1 ≤ P ∧ P ≤ 16 := by omega
    have hP2 : 1 + (m0 : Int) % 16 = (P : Int) := by omega
    obtain ⟨M, hM⟩ : ∃ M, M = 1 + m1 % 5 := ⟨_, rfl⟩
    have hM1 : 1 ≤ M ∧ M ≤ 5 := by omega
    have hM2 : 480 * (1 + (m1 : Int) % 5) = ((480 * M : Nat) : Int) := by omega
    try rw [hP2]
    try rw [hM2]
    have hv0 := hv.next hb2
    have hx0 := SpoiltV.next hx hb2
    refine (blooms_Make (.slice A l.length c) l (P : Int) ((480 * M : Nat) : Int) _ hv0 (by omega) (by omega) (by omega)).mono ?_
    rintro e w1 ⟨rfl, hb1⟩
    have hML : (makeL l (P : Int) ((480 * M : Nat) : Int)).length = 60 * M := by rw [made_len l P M hM1, length_packL]
    have hFL := fileP_len hML (by omega) hP1
    have hKP : ∀ T : List UInt8, (∀ k, 64 * k + 64 ≤ T.length → openOk (pgN T k) = true → 64 * k + 64 ≤ (fileP (makeL l (P : Int) ((480 * M : Nat) : Int)) (P : Int)).length ∧ pgN T k = pgN (fileP (makeL l (P : Int) ((480 * M : Nat) : Int)) (P : Int)) k) → ∀ h ∈ l, mayF T h = true :=
      fun T hk h hh => may_kept hML (by omega) hP1 hk (made_has l P M h hM1 hh).2
    have cPut := fun w => pages_Put (bs (makeL l (P : Int) ((480 * M : Nat) : Int))) (P : Int) w (by rw [size_bs]; omega) (by omega)
    have cOf := fun v w h => law_Of v a b cut t (bs (fileP (makeL l (P : Int) ((480 * M : Nat) : Int)) (P : Int))) w h (by rw [size_bs]; omega)
    rw [lb_bs] at cPut cOf
    have hSL := length_ofL a b cut (lb t) (fileP (makeL l (P : Int) ((480 * M : Nat) : Int)) (P : Int))
    generalize makeL l (P : Int) ((480 * M : Nat) : Int) = MK at *
    generalize fileP MK (P : Int) = FP at *
    generalize ofL a b cut (lb t) FP = S at *
    obtain ⟨u, hu⟩ : ∃ u, u = bs FP := ⟨_, rfl⟩
    obtain ⟨s, hs⟩ : ∃ s, s = bs S := ⟨_, rfl⟩
    have lu : lb u = FP := by rw [hu, lb_bs]
    have ls : lb s = S := by rw [hs, lb_bs]
    have su : u.size = 64 * (M + 1) := by rw [← length_lb, lu, hFL]
    have ss : s.size ≤ 500 := by rw [← length_lb, ls]; omega
    rw [← hu] at cPut cOf
    rw [← hs] at cOf
    clear hu hs hFL hSL hML
    subst lu ls
    simp only [length_lb] at hKP
    have cL := fun w => pages_Load s w (by omega)
    have cM := fun v w h (hf : FilterV w v (lb s)) (hh : h < 18446744073709551616) => pages_May v (lb s) h w hf hh
    have hv1 := hv0.next hb1
    have hx1 := SpoiltV.next hx0 hb1
    have hrB1 := hrB.next hb1
    have hb01 := below_chain hb2 hb1
    have CM := Lib.hid cM
    have CO := Lib.hid cOf
    have CL := Lib.hid cL
    have HKP := Lib.hid hKP
    have k1 : ¬ (u.size : Int) < 128 := by omega
    have k3 : ¬ u.size < 128 := by omega
    have k4 : (u.size : Int) % 64 = 0 := by omega
    have HSU := Lib.hid su
    clear hb1 hb2 hv0 hv hx hx0 hKP cM cOf cL cz0 cz1 hP2 hM2 hP hM hl hrA2 hrB su
    go_wp2_with fail
    refine (cPut _).mono ?_
    rintro e w2 ⟨rfl, hb3⟩
    clear cPut
    have hv2 := hv1.next hb3
    have hx2 := SpoiltV.next hx1 hb3
    have hrB2 := hrB1.next hb3
    have hb02 := below_chain hb01 hb3
    have HX := Lib.hid hx2
    have z1 := hrB2.cell 0 (by simp)
    have z2 := hrB2.cell 1 (by simp)
    have z3 := hrB2.cell 2 (by simp)
    have z4 := hrB2.cell 3 (by simp)
    simp only [List.getElem_cons_zero, List.getElem_cons_succ] at z1 z2 z3 z4
    clear hv1 hx1 hrB1 hb01 hb3 hx2 hrB2
    go_wp2_with fail
    refine (CO.out _ _ HX.out).mono ?_
    rintro e w3 ⟨rfl, hb3⟩
    have hv3 := Lib.hid (hv2.next hb3)
    have hb03 := below_chain hb02 hb3
    clear hv2 HX CO z1 z2 z3 z4 hb3 hb02
    go_wp2_with fail
    go_loopw [10] (fun i wr => ∃ k : Nat, 64 * k ≤ s.size ∧ i = .int .i64 ((64 * k : Nat) : Int) ∧ (∀ j, j < k → openOk (pgN (lb s) j) = true → 64 * j + 64 ≤ u.size ∧ pgN (lb s) j = pgN (lb u) j) ∧ Below w3.heap.size w3 wr) (fun i _ => s.size - (intOf i).toNat)
    case atStart => exact ⟨0, by omega, rfl, fun j hj => by omega, Below.refl _ _⟩
    case round =>
      obtain ⟨k, hk, rfl, hall, hbr⟩ := hrel
      have Hall := Lib.hid hall
      clear hall
      by_cases hlt : 64 * k + 64 ≤ s.size
      · have j3 : ((64 * k : Nat) : Int) + 64 ≤ s.size := by omega
        have j4 : 64 * (k : Int) + 64 ≤ s.size := by omega
        have xs : ∀ w', Calls Try.prog 28 #[.string (s.extract (64 * k) (64 * k + 64))] w' fun e w'' => e = .returned (.tuple #[.string (bs (openA (pgN (lb s) k))), .bool (openOk (pgN (lb s) k))]) ∧ Below w'.heap.size w' w'' := fun w' => by
          have := sums_Open (s.extract (64 * k) (64 * k + 64)) w' (by rw [ByteArray.size_extract]; omega)
          rwa [extract_pg] at this
        go_wp2_with fail
        refine (xs _).mono ?_
        rintro e w4 ⟨rfl, hb4⟩
        clear xs
        have hbr4 := below_more hbr hb4 (Nat.le_refl _)
        rcases hok : openOk (pgN (lb s) k) with _ | _
        · have hnext : ∀ j, j < k + 1 → openOk (pgN (lb s) j) = true → 64 * j + 64 ≤ u.size ∧ pgN (lb s) j = pgN (lb u) j := fun j hj ho => by
            rcases Nat.lt_or_ge j k with h9 | h9
            · exact Hall.out j h9 ho
            · obtain rfl : j = k := by omega
              rw [hok] at ho; cases ho
          have HN := Lib.hid hnext
          clear hnext hb4 hok
          go_wp2_with fail
          go_quiet (fail)
          go_wp2
          go_roundw
          case rel => exact ⟨k + 1, by omega, by go_num, HN.out, below_drewN hbr4 _⟩
          case measure => simp [intOf]; omega
        · by_cases hfit : 64 * k + 64 ≤ u.size
          · have e1 := extract_pg s k
            have e2 := extract_pg u k
            have f1 : 64 * (k : Int) + 64 ≤ u.size := by omega
            have f2 : ((64 * k : Nat) : Int) + 64 ≤ u.size := by omega
            have f3 : decide ((u.size : Int) < 64 * (k : Int) + 64) = false := by rw [decide_eq_false_iff_not]; omega
            by_cases heq : pgN (lb s) k = pgN (lb u) k
            · have hnext : ∀ j, j < k + 1 → openOk (pgN (lb s) j) = true → 64 * j + 64 ≤ u.size ∧ pgN (lb s) j = pgN (lb u) j := fun j hj ho => by
                rcases Nat.lt_or_ge j k with h9 | h9
                · exact Hall.out j h9 ho
                · obtain rfl : j = k := by omega
                  exact ⟨hfit, heq⟩
              have hcmp : ((s.extract (64 * k) (64 * k + 64)).toList == (u.extract (64 * k) (64 * k + 64)).toList) = true := by
                rw [toList_lb, toList_lb, e1, e2, heq]; simp
              have HN := Lib.hid hnext
              clear hnext hb4 hok e1 e2 heq
              go_wp2_with fail
              go_quiet (fail)
              go_wp2
              go_roundw
              case rel => exact ⟨k + 1, by omega, by go_num, HN.out, below_drewN hbr4 _⟩
              case measure => simp [intOf]; omega
            · have hcmp : ((s.extract (64 * k) (64 * k + 64)).toList == (u.extract (64 * k) (64 * k + 64)).toList) = false := by
                rw [toList_lb, toList_lb, e1, e2, beq_eq_false_iff_ne]; exact heq
              clear hb4 hok e1 e2 heq
              go_wp2_with fail
              go_quiet (fail)
              go_wp2_with fail
              refine (law_paged _).mono ?_
              rintro e w6 ⟨rfl, hb6⟩
              go_wp2
              go_ret
              exact ⟨rfl, below_chain hb03 (below_more (below_drewN hbr4 _) hb6 (Nat.le_refl _))⟩
          · have f1 : ¬ 64 * (k : Int) + 64 ≤ u.size := by omega
            have f2 : ¬ ((64 * k : Nat) : Int) + 64 ≤ u.size := by omega
            clear hb4 hok
            go_wp2_with fail
            go_quiet (fail)
            go_wp2_with fail
            refine (law_paged _).mono ?_
            rintro e w6 ⟨rfl, hb6⟩
            go_wp2
            go_ret
            exact ⟨rfl, below_chain hb03 (below_more (below_drewN hbr4 _) hb6 (Nat.le_refl _))⟩
      · have j3 : ¬ ((64 * k : Nat) : Int) + 64 ≤ s.size := by omega
        have j4 : ¬ 64 * (k : Int) + 64 ≤ s.size := by omega
        have hIN : ∀ h ∈ l, mayF (lb s) h = true := HKP.out (lb s) (fun j hj ho => Hall.out j (by rw [length_lb] at hj; omega) ho)
        have HIN := Lib.hid hIN
        clear hIN HKP Hall
        go_wp2_with fail
        refine (CL.out _).mono ?_
        rintro e w4 ⟨F, rfl, hf, hb4⟩
        clear CL
        have hbr4 := below_more hbr hb4 (Nat.le_refl _)
        obtain ⟨ga, gb, gc, rfl⟩ := hf.shape
        have hf0 := Lib.hid hf
        clear hf
        go_wp2_with fail
        have hrow := Row.new w4 #[.int .i64 ga, .int .i64 gb, .map gc] 42
        have hbl := (Below.refl w4.heap.size w4).alloc (Nat.le_refl _) (.cells #[.int .i64 ga, .int .i64 gb, .map gc] 42)
        obtain ⟨R, hR⟩ : ∃ R, R = w4.heap.size := ⟨_, rfl⟩
        rw [← hR] at hrow
        try rw [← hR]
        generalize w4.alloc (.cells #[.int .i64 ga, .int .i64 gb, .map gc] 42) = w5 at hrow hbl ⊢
        clear hR
        have hbr5 := below_more hbr4 hbl (Nat.le_refl _)
        have hf5 := Lib.hid (hf0.out.next hbl)
        have hv5 := Lib.hid (hv3.out.next hbr5)
        have Hb5 := Lib.hid (below_chain hb03 hbr5)
        have Hrow := Lib.hid hrow
        clear hb03 hbl hv3 hf0 hrow hbr4 hbr5 hb4 hbr
        go_loopw [14] (fun i wr => ∃ k : Nat, k ≤ l.length ∧ i = .int .i64 k ∧ Below w5.heap.size w5 wr) (fun i _ => l.length - (intOf i).toNat)
        case atStart => exact ⟨0, by omega, rfl, Below.refl _ _⟩
        case round =>
          obtain ⟨k, hk, rfl, hbr⟩ := hrel
          by_cases hlt : k < l.length
          · obtain ⟨bL, off, rfl, -, -, -, hcell⟩ := hv5.out.1.at_ (by omega)
            have j3 : (k : Int) < l.length := by omega
            have hc9 : ∀ w', Below w5.heap.size w5 w' → w'.cell? ⟨bL, off + k, none⟩ = some (.int .u64 (l[k] : Nat)) := fun w' hb => (hcell w' hb k (by simp; omega)).trans (by simp [u64C])
            have hh := hv5.out.2 l[k] (List.getElem_mem hlt)
            have hin := HIN.out l[k] (List.getElem_mem hlt)
            generalize l[k] = h at hc9 hh hin
            have x0 : ∀ x : Later wr, x.it.cell? ⟨bL, off + k, none⟩ = some (.int .u64 (h : Int)) := fun x => hc9 _ (below_more hbr x.ok (Nat.le_refl _))
            have rr : ∀ x : Later wr, Row x.it R 42 [.int .i64 ga, .int .i64 gb, .map gc] := fun x => Hrow.out.next (below_more hbr x.ok (Nat.le_refl _))
            have y0 : ∀ x : Later wr, x.it.cell? ⟨R, 0, none⟩ = some (.int .i64 ga) := fun x => (row_aggP (rr x)).1
            have y1 : ∀ x : Later wr, x.it.cell? ⟨R, 1, none⟩ = some (.int .i64 gb) := fun x => (row_aggP (rr x)).2.1
            have y2 : ∀ x : Later wr, x.it.cell? ⟨R, 2, none⟩ = some (.map gc) := fun x => (row_aggP (rr x)).2.2.1
            have Hff : ∀ x : Later wr, FilterV x.it (.agg #[.int .i64 ga, .int .i64 gb, .map gc]) (lb s) := fun x => hf5.out.next (below_more hbr x.ok (Nat.le_refl _))
            have cMy : ∀ x : Later wr, Calls Try.prog 25 #[.agg #[.int .i64 ga, .int .i64 gb, .map gc], .int .u64 h] x.it fun e w' => e = .returned (.bool true) ∧ Below x.it.heap.size x.it w' := fun x => by
              have := CM.out _ _ h (Hff x) hh
              rwa [hin] at this
            have CMY := Lib.hid cMy
            have HLT := Lib.hid hlt
            clear rr Hff hc9 hh hin cMy hlt hcell
            go_wp2_with fail
            refine wp_region_below (by kernel_rfl) (by kernel_rfl) ?_
            repeat (first | go_big_quiet_skip | (go_big_quiet_want; go_big_quiet_op; go_big_quiet_on) | (go_big_quiet_want; go_big_quiet_op; apply Exists.intro; refine ⟨fun x => ?_, ?_⟩; (go_at_call 25; exact calls_below x (CMY.out x)); go_big_quiet_on))
            refine wpQuiet_nil ?_
            intro _ hx
            obtain ⟨⟨w6, hb6⟩, rfl⟩ := hx
            go_wp2
            go_roundw
            case rel => exact ⟨k + 1, by have := HLT.out; omega, by go_num, below_more hbr hb6 (Nat.le_refl _)⟩
            case measure => have := HLT.out; simp [intOf]; omega
          · obtain rfl : k = l.length := by omega
            clear hk hlt
            go_wp2_with fail
            refine (law_paged _).mono ?_
            rintro e w6 ⟨rfl, hb6⟩
            go_wp2
            go_ret
            exact ⟨rfl, below_chain Hb5.out (below_more hbr hb6 (Nat.le_refl _))⟩
end Go.Proofs.Ytpoeginnoocenaa
