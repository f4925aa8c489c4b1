/-
  Rows.PagesSpoiltSaid: so it is of the file of any hashes' bits, spoilt in whatever way.
-/
import Derived.Test.YtpoeginnoocenaaPagesMay
import Derived.Test.YtpoeginnoocenaaOpenSpoilt
import Derived.Test.YtpoeginnoocenaaBloomRefMake
import Derived.Test.YtpoeginnoocenaaBloomsHas
namespace Go.Proofs.Ytpoeginnoocenaa
open Go.RowKit
set_option linter.unusedVariables false

theorem fileP_le (L : List UInt8) (p : Int) (h : L.length ≤ 300) : (fileP L p).length ≤ 1000 := by
  unfold fileP
  split
  · rename_i hm
    have := (mayI_iff _ _).1 hm
    have e : L.length = 60 * (L.length / 60) := by omega
    rw [List.length_append, headP_len, pagesTo_len e _ (Nat.le_refl _)]
    omega
  · simp
set_option maxRecDepth 100000 in
set_option maxHeartbeats 4000000 in
theorem PagesSpoilt_walk (v : Value) (l : List Nat) (v3 : Value) (n : Int × Int) (vx : Value) (x : List Nat × List UInt8 × Nat × ByteArray) (w : World) (hv : U64s w v l) (hv3 : PairIs v3 n) (hx : SpoiltIs w vx x) :
    Calls Try.prog 10 #[v, v3, vx] w fun e w' => e = .returned (.bool true) ∧ Below w.heap.size w w' := by
  obtain ⟨n0, n1⟩ := n
  obtain ⟨rfl, hn0, hn1⟩ := hv3
  dsimp only at hn0 hn1 ⊢
  obtain ⟨m0, rfl⟩ := Int.eq_ofNat_of_zero_le hn0.1
  obtain ⟨m1, rfl⟩ := Int.eq_ofNat_of_zero_le hn1.1
  have h0 : m0 ≤ 255 := by have := hn0.2; omega
  have h1 : m1 ≤ 255 := by have := hn1.2; omega
  obtain ⟨A, c, rfl, hc1, hc2, -, -⟩ := id hv.1
  obtain ⟨a, b, cut, t⟩ := x
  obtain ⟨va, vb, rfl, hxs⟩ := id hx
  obtain ⟨Aa, ca, rfl, -⟩ := id hxs.1
  obtain ⟨Ab, cb, rfl, -⟩ := id hxs.2.1
  clear hn0 hn1 hc2 hxs
  by_cases hl : 60 < l.length
  · have i2 : (60 : Int) < l.length := by omega
    clear hv hx
    go_enter Try.func10, Try.ntmps10
    go_wp2_with fail
    refine (law_paged _).mono ?_
    rintro e w1 ⟨rfl, hb1⟩
    go_wp2
    go_ret
    exact ⟨rfl, below_chain ((below_lit _ _)) (below_chain (below_lit _ _) hb1)⟩
  · have i2 : ¬ (60 : Int) < l.length := by omega
    have hrA := Row.new w #[.int .u8 (m0 : Int), .int .u8 (m1 : Int)] 32
    have hbA := (Below.refl w.heap.size w).alloc (Nat.le_refl _) (.cells #[.int .u8 (m0 : Int), .int .u8 (m1 : Int)] 32)
    have hsA : (w.alloc (.cells #[.int .u8 (m0 : Int), .int .u8 (m1 : Int)] 32)).heap.size = w.heap.size + 1 := Array.size_push _
    have hrB := Row.new (w.alloc (.cells #[.int .u8 (m0 : Int), .int .u8 (m1 : Int)] 32)) #[.slice Aa a.length ca, .slice Ab b.length cb, .int .u16 (cut : Int), .string t] 50
    have hbB := (Below.refl _ (w.alloc (.cells #[.int .u8 (m0 : Int), .int .u8 (m1 : Int)] 32))).alloc (Nat.le_refl _) (.cells #[.slice Aa a.length ca, .slice Ab b.length cb, .int .u16 (cut : Int), .string t] 50)
    have hrA2 := hrA.next hbB
    have hb2 := below_chain hbA hbB
    rw [hsA] at hrB
    clear hbA hbB hrA hsA
    go_enter Try.func10, Try.ntmps10
    go_wp2_with fail
    generalize ((w.alloc (Obj.cells #[Value.int IntKind.u8 (m0 : Int), Value.int IntKind.u8 (m1 : Int)] 32)).alloc (Obj.cells #[Value.slice Aa a.length ca, Value.slice Ab b.length cb, Value.int IntKind.u16 (cut : Int), Value.string t] 50)) = w0 at hrA2 hrB hb2 ⊢
    obtain ⟨P, hP⟩ : ∃ P, P = 1 + m0 % 16 := ⟨_, rfl⟩
    have hP1 : 1 ≤ P ∧ P ≤ 16 := by omega
    have hP2 : 1 + (m0 : Int) % 16 = (P : Int) := by omega
    obtain ⟨Q, hQ⟩ : ∃ Q, Q = 480 * (1 + m1 % 5) := ⟨_, rfl⟩
    have hQ1 : Q ≤ 2400 := by omega
    have hQ2 : 480 * (1 + (m1 : Int) % 5) = (Q : Int) := by omega
    have hML : (makeL l (P : Int) (Q : Int)).length ≤ 300 := by
      unfold makeL
      split
      · simp
      · rw [length_packL]; omega
    have hFL : (fileP (makeL l (P : Int) (Q : Int)) (P : Int)).length ≤ 1000 := fileP_le _ _ hML
    have cMk := fun w h => ref_Make_ (.slice A l.length c) l (P : Int) (Q : Int) w h (by omega) (by omega) (by omega)
    have cPut := fun w => refP_Put (bs (makeL l (P : Int) (Q : Int))) (P : Int) w (by rw [size_bs]; omega) (by omega)
    rw [lb_bs] at cPut
    have cOf := fun v w h => law_Of v a b cut t (bs (fileP (makeL l (P : Int) (Q : Int)) (P : Int))) w h (by rw [size_bs]; omega)
    rw [lb_bs] at cOf
    have hSL := length_ofL a b cut (lb t) (fileP (makeL l (P : Int) (Q : Int)) (P : Int))
    generalize makeL l (P : Int) (Q : Int) = MK at *
    generalize fileP MK (P : Int) = FP at *
    generalize ofL a b cut (lb t) FP = S at *
    have z0 : ∀ x : Later w0, x.it.cell? ⟨w.heap.size, 1, none⟩ = some (.int .u8 (m1 : Int)) := fun x => (hrA2.next x.ok).cell 1 (by simp)
    have z1 : ∀ x : Later w0, x.it.cell? ⟨w.heap.size + 1, 0, none⟩ = some (.slice Aa a.length ca) := fun x => (hrB.next x.ok).cell 0 (by simp)
    have z2 : ∀ x : Later w0, x.it.cell? ⟨w.heap.size + 1, 1, none⟩ = some (.slice Ab b.length cb) := fun x => (hrB.next x.ok).cell 1 (by simp)
    have z3 : ∀ x : Later w0, x.it.cell? ⟨w.heap.size + 1, 2, none⟩ = some (.int .u16 (cut : Int)) := fun x => (hrB.next x.ok).cell 2 (by simp)
    have z4 : ∀ x : Later w0, x.it.cell? ⟨w.heap.size + 1, 3, none⟩ = some (.string t) := fun x => (hrB.next x.ok).cell 3 (by simp)
    have hv0 : ∀ x : Later w0, U64s x.it (.slice A l.length c) l := fun x => hv.next (below_chain hb2 x.ok)
    have hx0 : ∀ x : Later w0, SpoiltV x.it (.agg #[.slice Aa a.length ca, .slice Ab b.length cb, .int .u16 (cut : Int), .string t]) a b cut t := fun x => SpoiltV.next hx (below_chain hb2 x.ok)
    have HV := Lib.hid hv0
    have HX := Lib.hid hx0
    have HMk := Lib.hid cMk
    have HPut := Lib.hid cPut
    have HOf := Lib.hid cOf
    have HrA := Lib.hid hrA2
    have HrB := Lib.hid hrB
    have HP := Lib.hid hP
    have HQ := Lib.hid hQ
    have HF := Lib.hid hFL
    have HM := Lib.hid hML
    have HSL := Lib.hid hSL
    have Hv := Lib.hid hv
    have Hx := Lib.hid hx
    clear hv0 hx0 cMk cPut cOf hrA2 hrB hP hQ hFL hML hSL hv hx hl
    refine wp_region_below (by kernel_rfl) (by kernel_rfl) ?_
    repeat (first | go_big_quiet_skip | (go_big_quiet_want; go_big_quiet_op; go_big_quiet_on) | (go_big_quiet_want; go_big_quiet_op; apply Exists.intro; refine ⟨fun x => ?_, ?_⟩; (first | (go_at_call 20; exact calls_below x (HMk.out _ (HV.out x))) | (go_at_call 23; exact calls_below x (HPut.out _)) | (go_at_call 27; exact calls_below x (HOf.out _ _ (HX.out x)))); go_big_quiet_on))
    refine wpQuiet_nil ?_
    intro _ hx
    obtain ⟨⟨w3, hb3⟩, rfl⟩ := hx
    have cL := fun w => pages_Load (bs S) w (by rw [size_bs]; have := HSL.out; have := HF.out; omega)
    have cR := fun h w (hh : h < 18446744073709551616) => refP_May (bs S) h w (by rw [size_bs]; have := HSL.out; have := HF.out; omega) hh
    have cM := fun v w h (hf : FilterV w v S) (hh : h < 18446744073709551616) => pages_May v S h w hf hh
    rw [lb_bs] at cL
    rw [lb_bs] at cR
    have hv3 := Hv.out.next (below_chain hb2 hb3)
    have hb03 := below_chain hb2 hb3
    clear z0 z1 z2 z3 z4 HV HX HMk HPut HOf HrA HrB HP HQ HF HM HSL Hx hb2 hb3 hP1 hP2 hQ1 hQ2
    go_wp2_with fail
    refine (cL _).mono ?_
    rintro e w4 ⟨F, rfl, hf, hb4⟩
    clear cL
    have hv4 := hv3.next hb4
    have hb04 := below_chain hb03 hb4
    obtain ⟨ga, gb, gc, rfl⟩ := hf.shape
    have hf0 := Lib.hid hf
    clear hf hv3 hb03 hb4
    go_wp2_with fail
    have hrow := Row.new w4 #[.int .i64 ga, .int .i64 gb, .map gc] 42
    have hbl := (Below.refl w4.heap.size w4).alloc (Nat.le_refl _) (.cells #[.int .i64 ga, .int .i64 gb, .map gc] 42)
    obtain ⟨R, hR⟩ : ∃ R, R = w4.heap.size := ⟨_, rfl⟩
    rw [← hR] at hrow
    try rw [← hR]
    generalize w4.alloc (.cells #[.int .i64 ga, .int .i64 gb, .map gc] 42) = w5 at hrow hbl ⊢
    clear hR
    have hf5 := Lib.hid (hf0.out.next hbl)
    have hv5 := Lib.hid (hv4.next hbl)
    have Hb5 := Lib.hid (below_chain hb04 hbl)
    have Hrow := Lib.hid hrow
    clear hb04 hbl hv4 hf0 hrow
    go_loopw [10] (fun i wr => ∃ k : Nat, k ≤ l.length ∧ i = .int .i64 k ∧ Below w5.heap.size w5 wr) (fun i _ => l.length - (intOf i).toNat)
    case atStart => exact ⟨0, by omega, rfl, Below.refl _ _⟩
    case round =>
      obtain ⟨k, hk, rfl, hbr⟩ := hrel
      by_cases hlt : k < l.length
      · obtain ⟨wo, rfl⟩ : ∃ x, x = wr := ⟨_, rfl⟩
        obtain ⟨bL, off, rfl, -, -, -, hcell⟩ := hv5.out.1.at_ (by omega)
        have i3 : (k : Int) < l.length := by omega
        have hc9 : ∀ w', Below w5.heap.size w5 w' → w'.cell? ⟨bL, off + k, none⟩ = some (.int .u64 (l[k] : Nat)) := fun w' hb => (hcell w' hb k (by simp; omega)).trans (by simp [u64C])
        have hh := hv5.out.2 l[k] (List.getElem_mem hlt)
        generalize l[k] = h at hc9 hh
        have Hc9 := Lib.hid hc9
        have Hh := Lib.hid hh
        have CM := Lib.hid cM
        have CR := Lib.hid cR
        have Hlt := Lib.hid hlt
        clear hcell hc9 hh cM cR hlt hk
        go_wp2_with fail
        go_loopw [11] (fun i wr => ∃ j : Nat, j ≤ 3 ∧ i = .int .i64 j ∧ Below w5.heap.size w5 wr) (fun i _ => 3 - (intOf i).toNat)
        case atStart => exact ⟨0, by omega, rfl, hbr⟩
        case round =>
          obtain ⟨j, hj, rfl, hbr2⟩ := hrel
          by_cases hj3 : j < 3
          · have j3 : (j : Int) < 3 := by omega
            obtain ⟨y, hy⟩ : ∃ y, y = (h + j) % 18446744073709551616 := ⟨_, rfl⟩
            have hy1 : y < 18446744073709551616 := by rw [hy]; exact Nat.mod_lt _ (by decide)
            have hy2 : IntKind.u64.wrap ((h : Int) + (j : Int)) = (y : Int) := by rw [IntKind.wrap_u64]; omega
            have hy3 : IntKind.u64.wrap (j : Int) = (j : Int) := by rw [IntKind.wrap_u64]; omega
            have x0 : ∀ x : Later wr, x.it.cell? ⟨bL, off + k, none⟩ = some (.int .u64 (h : Int)) := fun x => Hc9.out _ (below_more hbr2 x.ok (Nat.le_refl _))
            have rr : ∀ x : Later wr, Row x.it R 42 [.int .i64 ga, .int .i64 gb, .map gc] := fun x => Hrow.out.next (below_more hbr2 x.ok (Nat.le_refl _))
            have y0 : ∀ x : Later wr, x.it.cell? ⟨R, 0, none⟩ = some (.int .i64 ga) := fun x => (row_aggP (rr x)).1
            have y1 : ∀ x : Later wr, x.it.cell? ⟨R, 1, none⟩ = some (.int .i64 gb) := fun x => (row_aggP (rr x)).2.1
            have y2 : ∀ x : Later wr, x.it.cell? ⟨R, 2, none⟩ = some (.map gc) := fun x => (row_aggP (rr x)).2.2.1
            have Hff : ∀ x : Later wr, FilterV x.it (.agg #[.int .i64 ga, .int .i64 gb, .map gc]) S := fun x => hf5.out.next (below_more hbr2 x.ok (Nat.le_refl _))
            have HFF := Lib.hid Hff
            have HY := Lib.hid hy1
            clear rr Hff hy hy1
            go_wp2_with fail
            refine wp_region_below (by kernel_rfl) (by kernel_rfl) ?_
            repeat (first | go_big_quiet_skip | (go_big_quiet_want; go_big_quiet_op; go_big_quiet_on) | (go_big_quiet_want; go_big_quiet_op; apply Exists.intro; refine ⟨fun x => ?_, ?_⟩; (first | (go_at_call 25; exact calls_below x (CM.out _ _ _ (HFF.out x) HY.out)) | (go_at_call 26; exact calls_below x (CR.out _ _ HY.out))); go_big_quiet_on))
            refine wpQuiet_nil ?_
            intro _ hx
            obtain ⟨⟨w6, hb6⟩, rfl⟩ := hx
            go_wp2
            go_roundw
            case rel => exact ⟨j + 1, by omega, by go_num, below_more hbr2 hb6 (Nat.le_refl _)⟩
            case measure => simp [intOf]; omega
          · obtain rfl : j = 3 := by omega
            go_wp2
            go_roundw
            case rel => exact ⟨k + 1, by have := Hlt.out; omega, by go_num, hbr2⟩
            case measure => have := Hlt.out; simp [intOf]; omega
      · obtain rfl : k = l.length := by omega
        clear cM cR
        go_wp2_with fail
        refine (law_paged _).mono ?_
        rintro e w6 ⟨rfl, hb6⟩
        go_wp2
        go_ret
        exact ⟨rfl, below_chain Hb5.out (below_chain hbr hb6)⟩
end Go.Proofs.Ytpoeginnoocenaa
