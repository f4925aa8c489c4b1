/-
  Rows.PagesHasSaid: of a file as it was made May says what the bits say.
-/
import Derived.Test.YtpoeginnoocenaaPagesMay
import Derived.Test.YtpoeginnoocenaaPage8
import Derived.Test.YtpoeginnoocenaaBloomHas
import Derived.Test.YtpoeginnoocenaaBloomMake
import Derived.Test.YtpoeginnoocenaaBloomsHas
namespace Go.Proofs.Ytpoeginnoocenaa
open Go.RowKit
set_option linter.unusedVariables false

set_option maxRecDepth 100000 in
set_option maxHeartbeats 4000000 in
theorem PagesHas_walk (v : Value) (l : List Nat) (v2 : Value) (o : List Nat) (v3 : Value) (n : Int × Int) (w : World) (hv : U64s w v l) (hv2 : U64s w v2 o) (hv3 : PairIs v3 n) :
    Calls Try.prog 13 #[v, v2, v3] w fun e w' => e = .returned (.bool true) ∧ Below w.heap.size w w' := by
  obtain ⟨n0, n1⟩ := n
  obtain ⟨rfl, hn0, hn1⟩ := hv3
  dsimp only at hn0 hn1 ⊢
  obtain ⟨m0, rfl⟩ := Int.eq_ofNat_of_zero_le hn0.1
  obtain ⟨m1, rfl⟩ := Int.eq_ofNat_of_zero_le hn1.1
  have h0 : m0 ≤ 255 := by have := hn0.2; omega
  have h1 : m1 ≤ 255 := by have := hn1.2; omega
  obtain ⟨A, c, rfl, hc1, hc2, -, -⟩ := id hv.1
  obtain ⟨A2, c2, rfl, hc3, hc4, -, -⟩ := id hv2.1
  clear hn0 hn1 hc2 hc4
  by_cases hl : 60 < l.length ∨ 20 < o.length
  · rcases (show 60 < l.length ∨ (¬ 60 < l.length ∧ 20 < o.length) from by omega) with hl1 | ⟨hl1, hl2⟩
    · have i2 : (60 : Int) < l.length := by omega
      clear hv hv2 hl hl1
      go_enter Try.func13, Try.ntmps13
      go_wp2_with fail
      refine (law_paged _).mono ?_
      rintro e w1 ⟨rfl, hb1⟩
      go_wp2
      go_ret
      exact ⟨rfl, below_chain (below_lit _ _) hb1⟩
    · have i2 : ¬ (60 : Int) < l.length := by omega
      have i3 : (20 : Int) < o.length := by omega
      clear hv hv2 hl hl1 hl2
      go_enter Try.func13, Try.ntmps13
      go_wp2_with fail
      refine (law_paged _).mono ?_
      rintro e w1 ⟨rfl, hb1⟩
      go_wp2
      go_ret
      exact ⟨rfl, below_chain (below_lit _ _) hb1⟩
  · have i2 : ¬ (60 : Int) < l.length := by omega
    have i3 : ¬ (20 : Int) < o.length := by omega
    have cz0 := lit_cells w #[.int .u8 (m0 : Int), .int .u8 (m1 : Int)] 32 0 (.int .u8 (m0 : Int)) rfl _ (Below.refl _ _)
    have cz1 := lit_cells w #[.int .u8 (m0 : Int), .int .u8 (m1 : Int)] 32 1 (.int .u8 (m1 : Int)) rfl _ (Below.refl _ _)
    have hb0 := below_lit w (.cells #[.int .u8 (m0 : Int), .int .u8 (m1 : Int)] 32)
    go_enter Try.func13, Try.ntmps13
    go_wp2_with fail
    generalize (w.alloc (Obj.cells #[Value.int IntKind.u8 (m0 : Int), Value.int IntKind.u8 (m1 : Int)] 32)) = w0 at hb0 ⊢
    obtain ⟨P, hP⟩ : ∃ P, P = 1 + m0 % 16 := ⟨_, rfl⟩
    have hP1 : 1 ≤ P ∧ P ≤ 16 := by omega
    have hP2 : 1 + (m0 : Int) % 16 = (P : Int) := by omega
    obtain ⟨M, hM⟩ : ∃ M, M = 1 + m1 % 5 := ⟨_, rfl⟩
    have hM1 : 1 ≤ M ∧ M ≤ 5 := by omega
    have hM2 : 480 * (1 + (m1 : Int) % 5) = ((480 * M : Nat) : Int) := by omega
    try rw [hP2]
    try rw [hM2]
    have hv0 := hv.next hb0
    have hv20 := hv2.next hb0
    refine (blooms_Make (.slice A l.length c) l (P : Int) ((480 * M : Nat) : Int) _ hv0 (by omega) (by omega) (by omega)).mono ?_
    rintro e w1 ⟨rfl, hb1⟩
    have hML : (makeL l (P : Int) ((480 * M : Nat) : Int)).length = 60 * M := by rw [made_len l P M hM1, length_packL]
    have hFL := fileP_len hML (by omega) hP1
    have hIN : ∀ h ∈ l, mayF (fileP (makeL l (P : Int) ((480 * M : Nat) : Int)) (P : Int)) h = true := fun h hh => by
      rw [may_made h hML (by omega) hP1]
      exact (made_has l P M h hM1 hh).2
    have hOT : ∀ h, mayF (fileP (makeL l (P : Int) ((480 * M : Nat) : Int)) (P : Int)) h = hasL (makeL l (P : Int) ((480 * M : Nat) : Int)) (P : Int) h := fun h => may_made h hML (by omega) hP1
    have cPut := fun w => pages_Put (bs (makeL l (P : Int) ((480 * M : Nat) : Int))) (P : Int) w (by rw [size_bs]; omega) (by omega)
    have cHas := fun h w hh => blooms_Has (bs (makeL l (P : Int) ((480 * M : Nat) : Int))) (P : Int) h w (by rw [size_bs]; omega) (by omega) hh
    rw [lb_bs] at cPut cHas
    generalize makeL l (P : Int) ((480 * M : Nat) : Int) = MK at *
    generalize fileP MK (P : Int) = FP at *
    have cL := fun w => pages_Load (bs FP) w (by rw [size_bs]; omega)
    have cM := fun v w h (hf : FilterV w v FP) (hh : h < 18446744073709551616) => pages_May v FP h w hf hh
    rw [lb_bs] at cL
    have hpos : 0 < (bs MK).size := by rw [size_bs]; omega
    have hpos2 : (0 : Int) < (bs MK).size := by omega
    have hpos3 : 0 < MK.length := by omega
    have hpos4 : (0 : Int) < MK.length := by omega
    have hv1 := hv0.next hb1
    have hv21 := hv20.next hb1
    have hb01 := below_chain hb0 hb1
    have CM := Lib.hid cM
    have CH := Lib.hid cHas
    have HIN := Lib.hid hIN
    have HOT := Lib.hid hOT
    clear hb0 hb1 hv0 hv20 hv hv2 hML hFL hIN hOT cHas cM cz0 cz1 hP2 hM2 hP hM hM1 hl hpos
    go_wp2_with fail
    refine (cPut _).mono ?_
    rintro e w2 ⟨rfl, hb2⟩
    clear cPut
    go_wp2_with fail
    refine (cL _).mono ?_
    rintro e w4 ⟨F, rfl, hf, hb4⟩
    clear cL
    have hv4 := hv1.next (below_chain hb2 hb4)
    have hv24 := hv21.next (below_chain hb2 hb4)
    have hb04 := below_chain hb01 (below_chain hb2 hb4)
    obtain ⟨ga, gb, gc, rfl⟩ := hf.shape
    have hf0 := Lib.hid hf
    clear hf hv1 hv21 hb01 hb2 hb4
    go_wp2_with fail
    have hrow := Row.new w4 #[.int .i64 ga, .int .i64 gb, .map gc] 42
    have hbl := (Below.refl w4.heap.size w4).alloc (Nat.le_refl _) (.cells #[.int .i64 ga, .int .i64 gb, .map gc] 42)
    obtain ⟨R, hR⟩ : ∃ R, R = w4.heap.size := ⟨_, rfl⟩
    rw [← hR] at hrow
    try rw [← hR]
    generalize w4.alloc (.cells #[.int .i64 ga, .int .i64 gb, .map gc] 42) = w5 at hrow hbl ⊢
    clear hR
    have hf5 := Lib.hid (hf0.out.next hbl)
    have hv5 := Lib.hid (hv4.next hbl)
    have hv25 := Lib.hid (hv24.next hbl)
    have Hb5 := Lib.hid (below_chain hb04 hbl)
    have Hrow := Lib.hid hrow
    clear hb04 hbl hv4 hv24 hf0 hrow
    go_loopw [10] (fun i wr => ∃ k : Nat, k ≤ l.length ∧ i = .int .i64 k ∧ Below w5.heap.size w5 wr) (fun i _ => l.length - (intOf i).toNat)
    case atStart => exact ⟨0, by omega, rfl, Below.refl _ _⟩
    case round =>
      obtain ⟨k, hk, rfl, hbr⟩ := hrel
      by_cases hlt : k < l.length
      · obtain ⟨bL, off, rfl, -, -, -, hcell⟩ := hv5.out.1.at_ (by omega)
        have j3 : (k : Int) < l.length := by omega
        have hc9 : ∀ w', Below w5.heap.size w5 w' → w'.cell? ⟨bL, off + k, none⟩ = some (.int .u64 (l[k] : Nat)) := fun w' hb => (hcell w' hb k (by simp; omega)).trans (by simp [u64C])
        have hh := hv5.out.2 l[k] (List.getElem_mem hlt)
        have hin := HIN.out l[k] (List.getElem_mem hlt)
        generalize l[k] = h at hc9 hh hin
        have x0 : ∀ x : Later wr, x.it.cell? ⟨bL, off + k, none⟩ = some (.int .u64 (h : Int)) := fun x => hc9 _ (below_more hbr x.ok (Nat.le_refl _))
        have rr : ∀ x : Later wr, Row x.it R 42 [.int .i64 ga, .int .i64 gb, .map gc] := fun x => Hrow.out.next (below_more hbr x.ok (Nat.le_refl _))
        have y0 : ∀ x : Later wr, x.it.cell? ⟨R, 0, none⟩ = some (.int .i64 ga) := fun x => (row_aggP (rr x)).1
        have y1 : ∀ x : Later wr, x.it.cell? ⟨R, 1, none⟩ = some (.int .i64 gb) := fun x => (row_aggP (rr x)).2.1
        have y2 : ∀ x : Later wr, x.it.cell? ⟨R, 2, none⟩ = some (.map gc) := fun x => (row_aggP (rr x)).2.2.1
        have Hff : ∀ x : Later wr, FilterV x.it (.agg #[.int .i64 ga, .int .i64 gb, .map gc]) FP := fun x => hf5.out.next (below_more hbr x.ok (Nat.le_refl _))
        have cMy : ∀ x : Later wr, Calls Try.prog 25 #[.agg #[.int .i64 ga, .int .i64 gb, .map gc], .int .u64 h] x.it fun e w' => e = .returned (.bool true) ∧ Below x.it.heap.size x.it w' := fun x => by
          have := CM.out _ _ h (Hff x) hh
          rwa [hin] at this
        have CMY := Lib.hid cMy
        have HLT := Lib.hid hlt
        clear rr Hff hc9 hh hin cMy hlt hcell
        go_wp2_with fail
        refine wp_region_below (by kernel_rfl) (by kernel_rfl) ?_
        repeat (first | go_big_quiet_skip | (go_big_quiet_want; go_big_quiet_op; go_big_quiet_on) | (go_big_quiet_want; go_big_quiet_op; apply Exists.intro; refine ⟨fun x => ?_, ?_⟩; (go_at_call 25; exact calls_below x (CMY.out x)); go_big_quiet_on))
        refine wpQuiet_nil ?_
        intro _ hx
        obtain ⟨⟨w6, hb6⟩, rfl⟩ := hx
        go_wp2
        go_roundw
        case rel => exact ⟨k + 1, by have := HLT.out; omega, by go_num, below_more hbr hb6 (Nat.le_refl _)⟩
        case measure => have := HLT.out; simp [intOf]; omega
      · obtain rfl : k = l.length := by omega
        clear hk hlt
        go_wp2_with fail
        go_loopw [11] (fun i wr => ∃ k : Nat, k ≤ o.length ∧ i = .int .i64 k ∧ Below w5.heap.size w5 wr) (fun i _ => o.length - (intOf i).toNat)
        case atStart => exact ⟨0, by omega, rfl, hbr⟩
        case round =>
          obtain ⟨k, hk, rfl, hbr2⟩ := hrel
          by_cases hlt : k < o.length
          · obtain ⟨bL, off, rfl, -, -, -, hcell⟩ := hv25.out.1.at_ (by omega)
            have j3 : (k : Int) < o.length := by omega
            have hc9 : ∀ w', Below w5.heap.size w5 w' → w'.cell? ⟨bL, off + k, none⟩ = some (.int .u64 (o[k] : Nat)) := fun w' hb => (hcell w' hb k (by simp; omega)).trans (by simp [u64C])
            have hh := hv25.out.2 o[k] (List.getElem_mem hlt)
            generalize o[k] = h at hc9 hh
            have hot := HOT.out h
            have x0 : ∀ x : Later wr, x.it.cell? ⟨bL, off + k, none⟩ = some (.int .u64 (h : Int)) := fun x => hc9 _ (below_more hbr2 x.ok (Nat.le_refl _))
            have rr : ∀ x : Later wr, Row x.it R 42 [.int .i64 ga, .int .i64 gb, .map gc] := fun x => Hrow.out.next (below_more hbr2 x.ok (Nat.le_refl _))
            have y0 : ∀ x : Later wr, x.it.cell? ⟨R, 0, none⟩ = some (.int .i64 ga) := fun x => (row_aggP (rr x)).1
            have y1 : ∀ x : Later wr, x.it.cell? ⟨R, 1, none⟩ = some (.int .i64 gb) := fun x => (row_aggP (rr x)).2.1
            have y2 : ∀ x : Later wr, x.it.cell? ⟨R, 2, none⟩ = some (.map gc) := fun x => (row_aggP (rr x)).2.2.1
            have Hff : ∀ x : Later wr, FilterV x.it (.agg #[.int .i64 ga, .int .i64 gb, .map gc]) FP := fun x => hf5.out.next (below_more hbr2 x.ok (Nat.le_refl _))
            have cMy : ∀ x : Later wr, Calls Try.prog 25 #[.agg #[.int .i64 ga, .int .i64 gb, .map gc], .int .u64 h] x.it fun e w' => e = .returned (.bool (hasL MK (P : Int) h)) ∧ Below x.it.heap.size x.it w' := fun x => by
              have := CM.out _ _ h (Hff x) hh
              rwa [hot] at this
            have cHs : ∀ x : Later wr, Calls Try.prog 17 #[.string (bs MK), .int .i64 P, .int .u64 h] x.it fun e w' => e = .returned (.bool (hasL MK (P : Int) h)) ∧ Below x.it.heap.size x.it w' := fun x => CH.out h _ hh
            generalize hasL MK (P : Int) h = bb at cMy cHs
            have CMY := Lib.hid cMy
            have CHS := Lib.hid cHs
            have HLT := Lib.hid hlt
            clear rr Hff hc9 hh hot cMy cHs hlt hcell
            go_wp2_with fail
            refine wp_region_below (by kernel_rfl) (by kernel_rfl) ?_
            repeat (first | go_big_quiet_skip | (go_big_quiet_want; go_big_quiet_op; go_big_quiet_on) | (go_big_quiet_want; go_big_quiet_op; apply Exists.intro; refine ⟨fun x => ?_, ?_⟩; (first | (go_at_call 25; exact calls_below x (CMY.out x)) | (go_at_call 17; exact calls_below x (CHS.out x))); go_big_quiet_on))
            refine wpQuiet_nil ?_
            intro _ hx
            obtain ⟨⟨w6, hb6⟩, rfl⟩ := hx
            go_wp2
            go_roundw
            case rel => exact ⟨k + 1, by have := HLT.out; omega, by go_num, below_more hbr2 hb6 (Nat.le_refl _)⟩
            case measure => have := HLT.out; simp [intOf]; omega
          · obtain rfl : k = o.length := by omega
            clear hk hlt
            go_wp2_with fail
            refine (law_paged _).mono ?_
            rintro e w6 ⟨rfl, hb6⟩
            go_wp2
            go_ret
            exact ⟨rfl, below_chain Hb5.out (below_more hbr2 hb6 (Nat.le_refl _))⟩
end Go.Proofs.Ytpoeginnoocenaa
