/-
  Rows.ModelPagesSaid: pages of whatever size, put together, are a stream's events.
-/
import Derived.Test.YtmplabhofhllmaaModPlain
import Derived.Test.YtmplabhofhllmaaOpenActM
namespace Go.Proofs.Ytmplabhofhllmaa
open Go.RowKit Go.ChangeShapes Go.WideShapes
set_option linter.unusedVariables false

theorem open_SliceOfuint8 {H : Type} {enc : TypeId × Value → H} {W : World} {base : Nat} {v : Value} {d : DataW H} {p : List MemPlace} (hval : Value.okWide Try.prog W .any base 58 v) (h : DataW.Trod enc Try.prog W 0 (fun _ => true) true 58 v d p) :
    ∃ l : List UInt8, Reads W v 1 l.length (cellsB l) := by
  obtain ⟨l, h1, h2⟩ := open_list Try.underlying58 1 (by omega) cells_u8M (fun (x : UInt8) => [.int .u8 (x.toNat : Int)]) (fun _ => rfl) (fun x => True) (fun n cs y hl h => by
    obtain ⟨x, e0, -, w0⟩ := DataW.trod_int Try.underlying5 h
    subst e0
    have b := bounds_u8 w0
    exact ⟨UInt8.ofNat x.toNat, trivial, by
      have : (UInt8.ofNat x.toNat).toNat = x.toNat := by simp; omega
      rw [this, show ((x.toNat : Nat) : Int) = x by omega]⟩) hval h
  refine ⟨l, ?_⟩
  have e : l.flatMap (fun (x : UInt8) => [Value.int .u8 (x.toNat : Int)]) = cellsB l := by
    clear h1 h2; unfold cellsB; induction l with
    | nil => rfl
    | cons a l ih => rw [List.flatMap_cons, ih]; rfl
  rw [← e]; exact h1
theorem ev_lit (w : World) (x : Nat) : Reads (w.alloc (.cells (evC (tEv x)) 46)) (.slice (some ⟨w.heap.size, 0, none⟩) 1 1) 3 1 ([tEv x].flatMap evL) := by
  have := Reads.of_row (size := 3) (n := 1) (cap := 1) (Row.new w (evC (tEv x)) 46) rfl (Nat.le_refl _) (by unfold maxLen; omega)
  simpa [evC, evL] using this
theorem rep_succ (m : Nat) (e : Ev) : (List.replicate (m + 1) e).flatMap evL = (List.replicate m e).flatMap evL ++ [e].flatMap evL := by
  rw [List.replicate_succ', List.flatMap_append]
def nmC : List Value := nmL.map Value.string
theorem nmC_get {w : World} {g : Nat} {t : TypeId} (h : Row w g t nmC) (k : Nat) (hk : k < 4) : w.cell? ⟨g, k, none⟩ = some (.string (nm k)) := by
  have h1 := h.cell k (by show k < 4; exact hk)
  rw [h1]
  rcases (show k = 0 ∨ k = 1 ∨ k = 2 ∨ k = 3 from by omega) with rfl | rfl | rfl | rfl <;> rfl
theorem flt_small : ∀ k : Nat, k < 41 → floatOfInt .f64 (k : Int) < 18446744073709551616 := by decide +kernel
set_option maxRecDepth 100000 in
set_option maxHeartbeats 8000000 in
theorem ModelPages_walk (v : Value) (l : List UInt8) (n : Int) (w : World) (hv : Reads w v 1 l.length (cellsB l)) (hn : 0 ≤ n ∧ n ≤ 255) :
    Calls Try.prog 5 #[v, .int .u8 n] w fun e w' => e = .returned (.bool true) ∧ Below w.heap.size w w' := by
  obtain ⟨sz, rfl⟩ := Int.eq_ofNat_of_zero_le hn.1
  have hsz : sz ≤ 255 := by have := hn.2; omega
  obtain ⟨A, c, rfl, hc1, hc2, -⟩ := id hv
  clear hn hc1 hc2
  by_cases hl : 40 < l.length
  · have i1 : (40 : Int) < l.length := by omega
    clear hv
    go_enter Try.func5, Try.ntmps5
    go_wp2_with fail
    refine (law_modelled _).mono ?_
    rintro e w1 ⟨rfl, hb1⟩
    go_wp2
    go_ret
    exact ⟨rfl, hb1⟩
  · have i1 : ¬ (40 : Int) < l.length := by omega
    obtain ⟨B, hB⟩ : ∃ B, B = w.heap.size := ⟨_, rfl⟩
    have hrM := Row.new w #[.bool true, .slice none 0 0, .int .i64 0] 56
    have hbM := lit2_below' w (.cells #[.bool true, .slice none 0 0, .int .i64 0] 56) (.cells #[.string ⟨#[97]⟩, .string ⟨#[98]⟩, .string ⟨#[97, 98]⟩, .string ⟨#[255]⟩] 59)
    have hrO := Row.new (w.alloc (.cells #[.bool true, .slice none 0 0, .int .i64 0] 56)) #[.string ⟨#[97]⟩, .string ⟨#[98]⟩, .string ⟨#[97, 98]⟩, .string ⟨#[255]⟩] 59
    have hrM2 := hrM.next (lit_below (w.alloc (.cells #[.bool true, .slice none 0 0, .int .i64 0] 56)) (.cells #[.string ⟨#[97]⟩, .string ⟨#[98]⟩, .string ⟨#[97, 98]⟩, .string ⟨#[255]⟩] 59))
    rw [show (w.alloc (.cells #[.bool true, .slice none 0 0, .int .i64 0] 56)).heap.size = w.heap.size + 1 from Array.size_push _] at hrO
    have hM0 : ModW ((w.alloc (.cells #[.bool true, .slice none 0 0, .int .i64 0] 56)).alloc (.cells #[.string ⟨#[97]⟩, .string ⟨#[98]⟩, .string ⟨#[97, 98]⟩, .string ⟨#[255]⟩] 59)) w.heap.size w.heap.size (.slice none 0 0) [] 0 :=
      ⟨hrM2, Nat.le_refl _, .inl (World.ownsRow_nil _ _ _ _), fun p hp => by cases hp⟩
    have hrO2 : Row ((w.alloc (.cells #[.bool true, .slice none 0 0, .int .i64 0] 56)).alloc (.cells #[.string ⟨#[97]⟩, .string ⟨#[98]⟩, .string ⟨#[97, 98]⟩, .string ⟨#[255]⟩] 59)) (w.heap.size + 1) 59 nmC := hrO
    have hLv := hv.next (show Below w.heap.size w _ from hbM)
    rw [← hB] at hM0 hrO2 hbM
    have HB := Lib.hid hB
    have H0 := Lib.hid hM0
    have HO := Lib.hid hrO2
    have HbM := Lib.hid hbM
    have HV := Lib.hid hv
    clear hrM hrO hrM2 hM0 hrO2 hbM hLv hv
    go_enter Try.func5, Try.ntmps5
    go_wp2_with fail
    refine (model_New _).mono ?_
    rintro e w1 ⟨rfl, rfl⟩
    rw [← hB]
    go_wp2_with fail
    rw [show w.heap.size = B from hB.symm]
    clear hB
    obtain ⟨q, hq⟩ : ∃ q, q = l.length := ⟨_, rfl⟩
    have HQ := Lib.hid hq
    rw [show l.length = q from hq.symm]
    clear hq
    have hq40 : q ≤ 40 := by have := HQ.out; omega
    clear hl i1
    go_loopw [7] (fun i wr => ∃ (k : Nat) (L : List BatP) (v : Value), k ≤ q ∧ i = .int .i64 (k : Int) ∧ ModW wr B B v L 0 ∧ Rowed L ∧ Named L ∧ L.length = k ∧ Row wr (B + 1) 59 nmC ∧ Below B w wr) (fun i _ => q - (intOf i).toNat)
    case atStart => exact ⟨0, [], _, by omega, rfl, H0.out, Rowed.nil, (fun p hp => by cases hp), rfl, HO.out, HbM.out⟩
    case round =>
      obtain ⟨k, L, vm, hk, rfl, hM, hRow, hNam, hLk, hO, hbr⟩ := hrel
      have HLv := Lib.hid (fun w' (hb : Below B w w') => HV.out.next (by rw [← HB.out]; exact hb))
      have HM := Lib.hid hM
      have HRow := Lib.hid hRow
      have HNam := Lib.hid hNam
      have HO1 := Lib.hid hO
      have HBR := Lib.hid hbr
      have HLK := Lib.hid hLk
      clear hM hRow hNam hO hbr hLk
      by_cases hlt : k < q
      · have i1 : (k : Int) < q := by omega
        obtain ⟨wo, rfl⟩ : ∃ x, x = wr := ⟨_, rfl⟩
        obtain ⟨bl, ol, rfl, hbl, hcl⟩ : ∃ b off, A = some ⟨b, off, none⟩ ∧ b < w.heap.size ∧ ∀ w', Below B w w' → w'.cell? ⟨b, off + k, none⟩ = some (.int .u8 ((l.getD k 0).toNat : Int)) := by
          obtain ⟨A', c', hv9, -, -, -, hc⟩ := HV.out
          obtain ⟨rfl, -, rfl⟩ := Value.slice.inj hv9
          obtain ⟨b, off, rfl, hlt9, hcell⟩ := hc (by have := HQ.out; omega)
          refine ⟨b, off, rfl, hlt9, fun w' hb => ?_⟩
          have hk9 : k < l.length := by have := HQ.out; omega
          rw [hb.cell (p := ⟨b, off + k, none⟩) (by rw [HB.out]; exact hlt9), hcell k (by simp; exact hk9), cellsB_getElem, List.getD_eq_getElem?_getD, List.getElem?_eq_getElem hk9]; rfl
        have hx256 := (l.getD k 0).toNat_lt
        generalize (l.getD k 0).toNat = x at hcl hx256
        have cl0 := hcl _ HBR.out
        have HCL := Lib.hid hcl
        clear hcl hbl
        go_wp2_with fail
        have hx255 : x ≤ 255 := by omega
        clear hx256
        obtain ⟨m, hm⟩ : ∃ m, m = x / 4 % 8 := ⟨_, rfl⟩
        have hm8 : m < 8 := by omega
        obtain ⟨i0, hi0, hz0, hz1, hz2⟩ := info_parts infoEv
        go_loopw [8, 9] (fun o i wr => ∃ (j : Nat), j ≤ m + 1 ∧ i = .int .i64 (j : Int) ∧ wr.ownsRow wo.heap.size 46 3 o j ((List.replicate j (tEv (floatOfInt .f64 (k : Int)))).flatMap evL) ∧ Below wo.heap.size wo wr) (fun _ i _ => m + 1 - (intOf i).toNat)
        case atStart => exact ⟨0, by omega, rfl, World.ownsRow_nil _ _ _ _, Below.refl _ _⟩
        case round =>
          obtain ⟨j, hj, rfl, hown, hbr2⟩ := hrel
          have hbw := below_more HBR.out hbr2 (by have := HB.out; have := HBR.out.size; omega)
          have cl1 := HCL.out _ hbw
          have Hown := Lib.hid hown
          have HBr2 := Lib.hid hbr2
          clear hown hbr2 hbw cl0
          by_cases hjm : j ≤ m
          · have f1 : (j : Int) ≤ (x : Int) / 4 % 8 := by omega
            have HM2 := Lib.hid hm
            have HJM := Lib.hid hjm
            clear hm hjm
            have hrd := ev_lit wr (floatOfInt .f64 (k : Int))
            have hz := lit_below wr (.cells (evC (tEv (floatOfInt .f64 (k : Int)))) 46)
            have Hrd := Lib.hid hrd
            have Hz := Lib.hid hz
            have hj9 : j < 9 := by have := HJM.out; omega
            clear hrd hz
            go_wp2_with (first
              | (at_builtin; refine wpList_append_reads _ rfl _ _ 32 rfl wo.heap.size 46 i0 _ 3 40 Try.underlying32 hi0 hz0 hz1 hz2 rfl (by decide) _ j _ rfl (own_next Hown.out Hz.out) _ 1 ([tEv (floatOfInt .f64 (k : Int))].flatMap evL) rfl Hrd.out (evC_one _) (by unfold maxLen; omega) (by omega) (below_chain HBr2.out Hz.out).size ?_; intro v3 w3 hown3 hg3))
            have hb3 := (below_chain HBr2.out Hz.out).grown hg3 (below_chain HBr2.out Hz.out).size (own_block_ge Hown.out)
            go_wp2
            go_roundw
            case rel => exact ⟨j + 1, by have := HJM.out; omega, by go_num, by rw [rep_succ]; exact hown3, hb3⟩
            case measure => have := HJM.out; simp [intOf]; omega
          · have f1 : ¬ (j : Int) ≤ (x : Int) / 4 % 8 := by omega
            have HM2 := Lib.hid hm
            have HJM := Lib.hid hjm
            clear hm hjm
            obtain rfl : j = m + 1 := by have := HJM.out; omega
            obtain ⟨A8, c8, rfl, -⟩ := Reads.of_own Hown.out
            obtain ⟨r, hr⟩ : ∃ r, r = x % 4 := ⟨_, rfl⟩
            have hr4 : r < 4 := by omega
            have f2 : (x : Int) % 4 = (r : Int) := by omega
            have f3 : (r : Int) < 4 := by omega
            have hbw := below_more HBR.out HBr2.out (by have := HB.out; have := HBR.out.size; omega)
            have hO2 := HO1.out.next HBr2.out
            have cn := nmC_get hO2 r hr4
            have hM2 := HM.out.next HBr2.out
            have hY := flt_small k (by omega)
            have hEv : Evs wr (.slice A8 (m + 1) c8) (List.replicate (m + 1) (tEv (floatOfInt .f64 (k : Int)))) := by
              refine ⟨?_, (ev_fine _ hY (m + 1)).2⟩
              have := Reads.of_own Hown.out
              rwa [List.length_replicate]
            have hA0 := app_fine ⟨fun p hp => (hM2.2.2.2 p hp).2, by rw [HLK.out]; omega⟩ r hr4 (floatOfInt .f64 (k : Int)) (m + 1) hY (by omega)
            have hns := nm_size r hr4
            have hap := model_Append hM2 (nm r) (-2) _ _ hEv (by rw [List.length_replicate]; omega) (by unfold maxLen; omega) (by rw [HLK.out]; omega) (by have := HB.out; have := hbw.size; omega) (by omega)
            have hne := hM2.own_ne hO2 (by decide)
            have HAP := Lib.hid hap
            have HA0 := Lib.hid hA0
            have HNE := Lib.hid hne
            have HMM := Lib.hid hM2
            have HO2 := Lib.hid hO2
            have HBW := Lib.hid hbw
            have HR4 := Lib.hid hr4
            clear hap hA0 hne hM2 hO2 hbw hY hEv hns hr hr4
            go_wp2_with fail
            refine HAP.out.mono ?_
            rintro e w2 ⟨-, hy⟩
            obtain ⟨rfl, v', pe, hM3, hK3, -⟩ := hy HA0.out
            have hO3 := hK3.row HO2.out (by omega) HNE.out
            have hb3 := below_chain' HBW.out hK3 (by have := HB.out; have := HBW.out.size; omega) (Nat.le_refl _) (fun z hz => by
              rcases HMM.out.2.2.1 with ho | ⟨b9, hv9, hb9, -⟩
              · exact own_block_ge ho z hz
              · rw [hv9] at hz; simp [Value.ownBlock] at hz; omega)
            have HM3 := Lib.hid hM3
            have HO3 := Lib.hid hO3
            have Hb3 := Lib.hid hb3
            clear hM3 hO3 hb3 hK3 hy HAP
            go_wp2
            go_roundw
            case rel => exact ⟨k + 1, _, v', by omega, by go_num, HM3.out, HRow.out.app _ _ _, HNam.out.app _ _ HR4.out _ _, by rw [List.length_append, HLK.out]; rfl, HO3.out, Hb3.out⟩
            case measure => simp [intOf]; omega
      · obtain rfl : k = q := by omega
        go_wp2_with fail
        obtain ⟨wo, rfl⟩ : ∃ x, x = wr := ⟨_, rfl⟩
        have hL40 : L.length ≤ 40 := by rw [HLK.out]; exact hq40
        have HL40 := Lib.hid hL40
        clear hL40 hlt hk hq40
        go_loopw [12, 13] (fun mn i wr => ∃ j : Nat, j ≤ 4 ∧ i = .int .i64 (j : Int) ∧ mn = .int .i64 ((sumS L j : Nat) : Int) ∧ sumS L j ≤ j * 320 ∧ Below wo.heap.size wo wr) (fun _ i _ => 4 - (intOf i).toNat)
        case atStart => exact ⟨0, by omega, rfl, rfl, by simp [sumS], Below.refl _ _⟩
        case round =>
          obtain ⟨j, hj, rfl, rfl, hsm, hbr⟩ := hrel
          obtain ⟨wj, rfl⟩ : ∃ x, x = wr := ⟨_, rfl⟩
          have HBJ := Lib.hid hbr
          have HSM := Lib.hid hsm
          clear hbr hsm
          by_cases hj4 : j < 4
          · have j1 : (j : Int) < 4 := by omega
            have hMj := HM.out.next HBJ.out
            have hOj := HO1.out.next HBJ.out
            have cn := nmC_get hOj j hj4
            have hns := nm_size j hj4
            have hso : streamOk (nm j) = true := by unfold streamOk; simp; omega
            have cl := model_Last B vm L 0 (nm j) wj hMj.r (by have := HL40.out; omega) (by unfold maxLen; omega)
            rw [if_pos hso] at cl
            obtain ⟨S, hS⟩ : ∃ S, S = streamL L (nm j) := ⟨_, rfl⟩
            have hN := streamL_len (fun p hp => (hMj.2.2.2 p hp).2) (nm j)
            have hla : lastL L (nm j) = (S.length : Int) - 1 := by rw [hS]; rfl
            rw [hla] at cl
            rw [← hS] at hN
            obtain ⟨N, hNN⟩ : ∃ N, N = S.length := ⟨_, rfl⟩
            rw [← hNN] at cl hN
            have hN320 : N ≤ 320 := by have := HL40.out; omega
            have hrow : InRow 0 S := by rw [hS]; exact HRow.out _
            have hokS : ∀ t ∈ S, okT t := fun t ht => allL_ok (fun p hp => (hMj.2.2.2 p hp).2) t (by rw [hS] at ht; exact (List.mem_filter.1 ht).1)
            have hall : ∀ t ∈ S, t.1 = nm j := fun t ht => by
              rw [hS] at ht
              have := (List.mem_filter.1 ht).2
              simpa [ofT] using this
            have HS := Lib.hid hS
            have HNN := Lib.hid hNN
            have HROW := Lib.hid hrow
            have HOKS := Lib.hid hokS
            have HALL := Lib.hid hall
            have HSO := Lib.hid hso
            have HNS := Lib.hid hns
            have HMj := Lib.hid hMj
            have HOj := Lib.hid hOj
            clear hS hNN hrow hokS hall hso hns hMj hOj hla hN
            obtain ⟨i0, hi0, hz0, hz1, hz2⟩ := info_parts infoTold
            go_wp2_with fail
            refine cl.mono ?_
            rintro e w2 ⟨rfl, hb2⟩
            have HM2 := Lib.hid (HMj.out.next hb2)
            have HO2 := Lib.hid (HOj.out.next hb2)
            have HB2 := Lib.hid hb2
            clear cl hb2 cn
            go_wp2_with fail
            go_loopw [16, 18] (fun o i wr => ∃ a : Nat, i = .int .i64 (a : Int) ∧ a ≤ 600 ∧ wr.ownsRow w2.heap.size 48 5 o (min a N) (toldsC (S.take a)) ∧ Below w2.heap.size w2 wr) (fun _ i _ => N - (intOf i).toNat)
            case atStart => exact ⟨0, rfl, by omega, by rw [Nat.zero_min, List.take_zero]; exact World.ownsRow_nil _ _ _ _, Below.refl _ _⟩
            case round =>
              obtain ⟨a, rfl, ha6, hown, hbr⟩ := hrel
              obtain ⟨wa, rfl⟩ : ∃ x, x = wr := ⟨_, rfl⟩
              have HOWN := Lib.hid hown
              have HBA := Lib.hid hbr
              clear hown hbr
              by_cases haN : a < N
              · have a1 : (a : Int) ≤ (N : Int) - 1 := by omega
                have cn := nmC_get (HO2.out.next HBA.out) j hj4
                have hpg := model_Forward B vm L 0 (nm j) (a : Int) ((1 + sz : Nat) : Int) wa (HM2.out.next HBA.out).r (by have := HL40.out; omega) (by have := HNS.out; unfold maxLen; omega) (by omega) (by omega)
                have hbad : badP (nm j) (a : Int) ((1 + sz : Nat) : Int) = false := by unfold badP; rw [HSO.out]; simp; omega
                rw [← HS.out, page_up HROW.out a (1 + sz)] at hpg
                rw [show ((1 + sz : Nat) : Int) = 1 + (sz : Int) from by omega] at hpg hbad
                have hpl : ((S.drop a).take (1 + sz)).length = min (1 + sz) (N - a) := by rw [List.length_take, List.length_drop, HNN.out]
                have HPG := Lib.hid hpg
                have HBAD := Lib.hid hbad
                obtain ⟨P, hP⟩ : ∃ P, P = min (1 + sz) (N - a) := ⟨_, rfl⟩
                have hP1 : 1 ≤ P ∧ P ≤ 1 + sz ∧ P ≤ N := by omega
                rw [← hP] at hpl
                have HPL := Lib.hid hpl
                have HP := Lib.hid hP
                clear hpg hbad hpl hP
                go_wp2_with fail
                refine HPG.out.mono ?_
                rintro e w3 ⟨-, hy⟩
                obtain ⟨vp, rfl, hop, hb3⟩ := hy HBAD.out
                rw [HPL.out] at hop
                obtain ⟨Ap, cp, rfl, -⟩ := Reads.of_own hop
                have HOP := Lib.hid (Reads.of_own hop)
                have HOWN3 := Lib.hid (own_next HOWN.out hb3)
                have HB3 := Lib.hid (below_chain HBA.out hb3)
                obtain ⟨p1, p2, p3⟩ := hP1
                have q1 : ¬ (P : Int) = 0 := by omega
                have q2 : ¬ (1 + (sz : Int) < P) := by omega
                have q3 : ((P : Int) == 0) = false := by rw [beq_eq_false_iff_ne]; omega
                clear hop hb3 hy HPG cn
                go_wp2_with (first
                  | (at_builtin; refine wpList_append_reads _ rfl _ _ 28 rfl w2.heap.size 48 i0 _ 5 64 Try.underlying28 hi0 hz0 hz1 hz2 rfl (by decide) _ (min a N) _ rfl HOWN3.out _ P _ rfl HOP.out (toldsC_one _) (by unfold maxLen; omega) (by omega) HB3.out.size ?_; intro v4 w4 hown4 hg4))
                have hb4 := HB3.out.grown hg4 HB3.out.size (own_block_ge HOWN3.out)
                have hown5 : w4.ownsRow w2.heap.size 48 5 v4 (min (a + 1 + sz) N) (toldsC (S.take (a + 1 + sz))) := by
                  rw [show a + 1 + sz = a + (1 + sz) from by omega, ← up_next a (1 + sz), toldsC_append]
                  rw [show min (a + (1 + sz)) N = min a N + P from by have := HP.out; omega]
                  exact hown4
                have HOWN5 := Lib.hid hown5
                have Hb4 := Lib.hid hb4
                clear hown4 hg4 hown5 hb4
                go_wp2
                go_roundw
                case rel => exact ⟨a + 1 + sz, by go_num, by omega, HOWN5.out, Hb4.out⟩
                case measure => simp [intOf]; omega
              · have a1 : ¬ (a : Int) ≤ (N : Int) - 1 := by omega
                have hown6 := HOWN.out
                rw [show min a N = N from by omega, List.take_of_length_le (by rw [← HNN.out]; omega)] at hown6
                obtain ⟨A1, c1, rfl, -⟩ := Reads.of_own hown6
                have HOWN6 := Lib.hid hown6
                have HMa := Lib.hid (HM2.out.next HBA.out)
                have HOa := Lib.hid (HO2.out.next HBA.out)
                clear hown6
                go_wp2_with fail
                clear a1 haN ha6
                go_loopw [17, 21] (fun o i wr => ∃ b : Int, i = .int .i64 b ∧ b ≤ (N : Int) - 1 ∧ -300 ≤ b ∧ wr.ownsRow wa.heap.size 48 5 o (N - (b + 1).toNat) (toldsC (S.drop (b + 1).toNat).reverse) ∧ Below wa.heap.size wa wr) (fun _ i _ => (intOf i + 1).toNat)
                case atStart =>
                  refine ⟨_, rfl, Int.le_refl _, by omega, ?_, Below.refl _ _⟩
                  rw [show (((N : Int) - 1) + 1).toNat = N from by omega, Nat.sub_self, List.drop_of_length_le (by rw [← HNN.out]; exact Nat.le_refl _)]
                  exact World.ownsRow_nil _ _ _ _
                case round =>
                  obtain ⟨b, rfl, hbN, hb300, hown, hbr⟩ := hrel
                  obtain ⟨wb, rfl⟩ : ∃ x, x = wr := ⟨_, rfl⟩
                  have HOWNB := Lib.hid hown
                  have HBB := Lib.hid hbr
                  clear hown hbr
                  by_cases hb0 : 0 ≤ b
                  · obtain ⟨d, rfl⟩ := Int.eq_ofNat_of_zero_le hb0
                    have b1 : (0 : Int) ≤ d := by omega
                    have cn := nmC_get (HOa.out.next HBB.out) j hj4
                    have hpg := model_Backward B vm L 0 (nm j) (d : Int) ((1 + sz : Nat) : Int) wb (HMa.out.next HBB.out).r (by have := HL40.out; omega) (by have := HNS.out; unfold maxLen; omega) (by omega) (by omega)
                    have hbad : badP (nm j) (d : Int) ((1 + sz : Nat) : Int) = false := by unfold badP; rw [HSO.out]; simp; omega
                    rw [← HS.out, page_down HROW.out d (1 + sz)] at hpg
                    rw [show ((1 + sz : Nat) : Int) = 1 + (sz : Int) from by omega] at hpg hbad
                    obtain ⟨e0, he0⟩ : ∃ e0, e0 = d + 1 - (1 + sz) := ⟨_, rfl⟩
                    rw [← he0] at hpg
                    obtain ⟨P, hP⟩ : ∃ P, P = d + 1 - e0 := ⟨_, rfl⟩
                    rw [← hP] at hpg
                    have hP1 : 1 ≤ P ∧ P ≤ 1 + sz ∧ P ≤ N := by omega
                    have hpl : ((S.drop e0).take P).reverse.length = P := by rw [List.length_reverse, List.length_take, List.length_drop, ← HNN.out]; omega
                    have HPG := Lib.hid hpg
                    have HBAD := Lib.hid hbad
                    have HPL := Lib.hid hpl
                    have HP := Lib.hid hP
                    have HE0 := Lib.hid he0
                    clear hpg hbad hpl hP he0 hb0
                    go_wp2_with fail
                    refine HPG.out.mono ?_
                    rintro e w3 ⟨-, hy⟩
                    obtain ⟨vp, rfl, hop, hb3⟩ := hy HBAD.out
                    rw [HPL.out] at hop
                    obtain ⟨Ap, cp, rfl, -⟩ := Reads.of_own hop
                    have HOP := Lib.hid (Reads.of_own hop)
                    have HOWN3 := Lib.hid (own_next HOWNB.out hb3)
                    have HB3 := Lib.hid (below_chain HBB.out hb3)
                    obtain ⟨p1, p2, p3⟩ := hP1
                    have q1 : ¬ (P : Int) = 0 := by omega
                    have q2 : ¬ (1 + (sz : Int) < P) := by omega
                    have q3 : ((P : Int) == 0) = false := by rw [beq_eq_false_iff_ne]; omega
                    obtain ⟨Q, hQ⟩ : ∃ Q, Q = N - ((d : Int) + 1).toNat := ⟨_, rfl⟩
                    have hQN : Q ≤ N := by omega
                    have HOWN4 := HOWN3.out
                    rw [← hQ] at HOWN4
                    have HOWN4 := Lib.hid HOWN4
                    have HQ9 := Lib.hid hQ
                    clear hop hb3 hy HPG cn hQ
                    go_wp2_with (first
                      | (at_builtin; refine wpList_append_reads _ rfl _ _ 28 rfl wa.heap.size 48 i0 _ 5 64 Try.underlying28 hi0 hz0 hz1 hz2 rfl (by decide) _ Q _ rfl HOWN4.out _ P _ rfl HOP.out (toldsC_one _) (by unfold maxLen; omega) (by omega) HB3.out.size ?_; intro v4 w4 hown4 hg4))
                    have hb4 := HB3.out.grown hg4 HB3.out.size (own_block_ge HOWN4.out)
                    have hown5 : w4.ownsRow wa.heap.size 48 5 v4 (N - ((d : Int) - 1 - sz + 1).toNat) (toldsC (S.drop ((d : Int) - 1 - sz + 1).toNat).reverse) := by
                      have e1 : ((d : Int) - 1 - sz + 1).toNat = e0 := by have := HE0.out; omega
                      have e2 : ((d : Int) + 1).toNat = d + 1 := by omega
                      have e3 := down_next (S := S) (d + 1) (1 + sz)
                      rw [← HE0.out, ← HP.out] at e3
                      rw [e1, ← e3, toldsC_append, show N - e0 = Q + P from by have := HQ9.out; have := HP.out; have := HE0.out; omega]
                      rw [e2] at hown4
                      exact hown4
                    have HOWN5 := Lib.hid hown5
                    have Hb4 := Lib.hid hb4
                    clear hown4 hg4 hown5 hb4
                    go_wp2
                    go_roundw
                    case rel => exact ⟨(d : Int) - 1 - sz, by go_num, by omega, by omega, HOWN5.out, Hb4.out⟩
                    case measure => simp [intOf]; omega
                  · have b1 : ¬ 0 ≤ b := hb0
                    have hown6 := HOWNB.out
                    rw [show (b + 1).toNat = 0 from by omega, Nat.sub_zero, List.drop_zero] at hown6
                    obtain ⟨A2, c2, rfl, -⟩ := Reads.of_own hown6
                    have HT1 := Lib.hid (show Tolds wb (.slice A1 N c1) S from by
                      have := own_next HOWN6.out HBB.out
                      refine ⟨?_, HOKS.out⟩
                      rw [← HNN.out]; exact Reads.of_own this)
                    have HT2 := Lib.hid (show Tolds wb (.slice A2 N c2) S.reverse from by
                      refine ⟨?_, fun t ht => HOKS.out t (List.mem_reverse.1 ht)⟩
                      rw [List.length_reverse, ← HNN.out]; exact Reads.of_own hown6)
                    have HOb := Lib.hid (HOa.out.next HBB.out)
                    have HBE := Lib.hid (below_chain HB2.out (below_chain HBA.out HBB.out))
                    clear hown6
                    have q4 : (N : Int) - 1 + 1 = N := by omega
                    go_wp2_with fail
                    go_loopw [24] (fun i wr => ∃ y : Nat, y ≤ N ∧ i = .int .i64 (y : Int) ∧ Below wb.heap.size wb wr) (fun i _ => N - (intOf i).toNat)
                    case atStart => exact ⟨0, by omega, rfl, Below.refl _ _⟩
                    case round =>
                      obtain ⟨y, hy, rfl, hbr⟩ := hrel
                      by_cases hyN : y < N
                      · have y1 : (y : Int) < N := by omega
                        obtain ⟨t, ht⟩ : ∃ t, S[y]? = some t := ⟨_, List.getElem?_eq_getElem (by have := HNN.out; omega)⟩
                        obtain ⟨d, hd⟩ : ∃ d, d = N - 1 - y := ⟨_, rfl⟩
                        have ht2 : S.reverse[d]? = some t := by
                          rw [List.getElem?_reverse (by have := HNN.out; omega), ← ht]
                          congr 1
                          have := HNN.out
                          omega
                        have htv := HROW.out y t ht
                        have hts := HALL.out t (List.mem_of_getElem? ht)
                        rw [Nat.zero_add] at htv
                        obtain ⟨bx, ox, rfl, -, hcx⟩ := HT1.out.later (by have := HNN.out; omega)
                        obtain ⟨by_, oy, rfl, -, hcy⟩ := HT2.out.later (by rw [List.length_reverse]; have := HNN.out; omega)
                        have cx := fun z : Later wr => hcx y t ht z.it (below_chain hbr z.ok)
                        have cy := fun z : Later wr => hcy d t ht2 z.it (below_chain hbr z.ok)
                        have cx0 := fun z => (cx z).1
                        have cx1 := fun z => (cx z).2.1
                        have cy1 := fun z => (cy z).2.1
                        have cnm := fun z : Later wr => nmC_get (HOb.out.next (below_chain hbr z.ok)) j hj4
                        rw [htv] at cx1 cy1
                        rw [hts] at cx0
                        have d1 : (N : Int) - 1 - (y : Int) = (d : Int) := by omega
                        have d2 : (d : Int) < N := by omega
                        have e1 : ((nm j).toList == (nm j).toList) = true := by simp
                        have HBR := Lib.hid hbr
                        clear cx cy hcx hcy ht ht2 hts htv hd hbr
                        go_wp2_with fail
                        refine wp_region_below (by kernel_rfl) (by kernel_rfl) ?_
                        repeat (first | go_big_quiet_skip | (go_big_quiet_want; go_big_quiet_op; go_big_quiet_on) | (go_big_quiet_want; go_big_quiet_op; apply Exists.intro; refine ⟨fun x => ?_, ?_⟩; (fail); go_big_quiet_on))
                        refine wpQuiet_nil ?_
                        intro _ hx
                        obtain ⟨⟨w6, hb6⟩, rfl⟩ := hx
                        have Hb6 := Lib.hid hb6
                        clear hb6 cx0 cx1 cy1 cnm
                        go_wp2
                        go_roundw
                        case rel => exact ⟨y + 1, by omega, by go_num, below_chain HBR.out Hb6.out⟩
                        case measure => simp [intOf]; omega
                      · obtain rfl : y = N := by omega
                        have m1 : ((sumS L j : Nat) : Int) ≤ 1280 := by have := HSM.out; omega
                        have HBR := Lib.hid hbr
                        have hsum : sumS L (j + 1) = sumS L j + y := by
                          show sumS L j + (streamL L (nm j)).length = sumS L j + y
                          rw [← HS.out, ← HNN.out]
                        have HSUM := Lib.hid hsum
                        clear hbr hsum
                        go_wp2
                        go_roundw
                        case rel =>
                          refine ⟨j + 1, by omega, by go_num, ?_, by rw [HSUM.out]; have := HSM.out; omega, below_chain HBJ.out (below_chain HBE.out HBR.out)⟩
                          rw [HSUM.out]
                          first | rfl | go_num | (congr 1; omega)
                        case measure => simp [intOf]; omega
          · obtain rfl : j = 4 := by omega
            have hMj := HM.out.next HBJ.out
            have hal := model_All B vm L 0 wj hMj.r (by have := HL40.out; omega)
            have hsa := sumS_all HNam.out
            rw [hsa]
            have HAL := Lib.hid hal
            have hle := HSM.out
            rw [hsa] at hle
            obtain ⟨T, hT⟩ : ∃ T, T = (allL L).length := ⟨_, rfl⟩
            rw [← hT] at hle ⊢
            have HT := Lib.hid hT
            have HBF := Lib.hid (below_more HBR.out HBJ.out (by have := HB.out; have := HBR.out.size; omega))
            clear hMj hal hsa hT
            go_wp2_with fail
            refine HAL.out.mono ?_
            rintro e w2 ⟨vt, rfl, hot, hb2⟩
            rw [← HT.out] at hot
            obtain ⟨At, ctt, rfl, -⟩ := Reads.of_own hot
            have e1 : ((T : Int) == T) = true := by simp
            have Hb2 := Lib.hid (below_more HBF.out hb2 (by have := HB.out; have := HBF.out.size; omega))
            clear hot hb2
            go_wp2_with fail
            refine (law_modelled _).mono ?_
            rintro e w3 ⟨rfl, hb3⟩
            have Hb3 := Lib.hid (below_more Hb2.out hb3 (by have := HB.out; have := Hb2.out.size; omega))
            clear hb3
            go_wp2
            go_ret
            exact ⟨rfl, by have := Hb3.out; rw [HB.out] at this; exact this⟩
end Go.Proofs.Ytmplabhofhllmaa
