/-
  MODEL: the chapter's batches.
-/
import Derived.Test.YtmplabhofhllmaaMod5
namespace Go.Proofs.Ytmplabhofhllmaa
open Go.RowKit
set_option linter.unusedVariables false

theorem Keep2.row {w w' : World} {g k : Nat} {b : Option Nat} {t : TypeId} {xs : List Value} (h : Keep2 w w' g b) (hr : Row w k t xs) (h1 : k ≠ g) (h2 : some k ≠ b) : Row w' k t xs := hr.of_block (h.block k hr.lt h1 h2)
theorem ModW.own_ne {w : World} {base g : Nat} {v : Value} {L : List BatP} {sure : Nat} (h : ModW w base g v L sure) {k : Nat} {t : TypeId} {xs : List Value} (hr : Row w k t xs) (hne : 65 ≠ t) : some k ≠ v.ownBlock := by
  intro h9
  rcases h.2.2.1 with ho | ⟨b, hv, -, hb, -⟩
  · exact own_other ho hr hne k h9.symm rfl
  · subst hv
    simp [Value.ownBlock] at h9
    subst h9
    exact hne (row_types hb hr)
theorem ModW.flush {w : World} {base g : Nat} {v : Value} {L : List BatP} {sure : Nat} (h : ModW w base g v L sure) (n : Nat) : ModW (w.setCell ⟨g, 2, none⟩ (.int .i64 (n : Int))) base g v L n := by
  have hset : ∀ (q : Value) (b m : Nat) (e : TypeId) (xs : List Value), w.ownsRow b e 3 q m xs → e ≠ 56 → (w.setCell ⟨g, 2, none⟩ (.int .i64 (n : Int))).ownsRow b e 3 q m xs := fun q b m e xs hq hne =>
    own_keepR hq (fun k9 hk9 => Below.heap_setCell _ _ _ _ (own_other hq h.1 hne k9 hk9))
  refine ⟨h.1.set 2 _, h.2.1, ?_, fun p hp => ⟨hset _ _ _ _ _ (h.2.2.2 p hp).1 types_neM.2.1, (h.2.2.2 p hp).2⟩⟩
  rcases h.2.2.1 with ho | ⟨b, hv, hbb, hr, h1, h2⟩
  · exact .inl (hset _ _ _ _ _ ho types_neM.1)
  · refine .inr ⟨b, hv, hbb, hr.far (p := ⟨g, 2, none⟩) (fun h9 => ?_) _, h1, h2⟩
    have h9' : b = g := h9
    subst h9'
    exact types_neM.1 (row_types hr h.1)
theorem Tolds.front {w : World} {A : Option Addr} {n c : Nat} {T : List Tld} (h : Tolds w (.slice A n c) T) (k : Nat) (hk : k ≤ T.length) : Tolds w (.slice A k c) (T.take k) := by
  obtain ⟨⟨A', c', hv, hn1, hn2, hlen, hcell⟩, hok⟩ := h
  obtain ⟨rfl, rfl, rfl⟩ := Value.slice.inj hv
  have hl : (T.take k).length = k := by rw [List.length_take]; omega
  refine ⟨⟨A, c, by rw [hl], by omega, hn2, length_toldsC _, fun h0 => ?_⟩, fun t ht => hok t (List.mem_of_mem_take ht)⟩
  obtain ⟨b, off, rfl, hlt, hc⟩ := hcell (by omega)
  refine ⟨b, off, rfl, hlt, fun j hj => ?_⟩
  have e : toldsC T = toldsC (T.take k) ++ toldsC (T.drop k) := by rw [← toldsC_append, List.take_append_drop]
  have hj2 : j < (toldsC T).length := by rw [e, List.length_append]; omega
  rw [hc j hj2]
  congr 1
  simp only [e]
  rw [List.getElem_append_left hj]
def allS (S : List Bat) : List Tld := S.flatMap toldB
def lastS (S : List Bat) (s : ByteArray) : Int := (((allS S).filter (ofT s)).length : Int) - 1
theorem allL_map (L : List BatP) : allL L = allS (L.map (·.2)) := by unfold allL allS; rw [List.flatMap_map]
theorem lastL_map (L : List BatP) (s : ByteArray) : lastL L s = lastS (L.map (·.2)) s := by unfold lastL lastS streamL; rw [allL_map]
def exEv : Ev := (⟨#[97]⟩, ⟨#[]⟩, 0)
def exS : ByteArray := ⟨#[115]⟩
def exB (k : Nat) : List Bat := (List.range k).map fun (i : Nat) => (exS, (i : Int), [exEv])
theorem exB_succ (k : Nat) : exB (k + 1) = exB k ++ [(exS, (k : Int), [exEv])] := by unfold exB; rw [List.range_succ, List.map_append]; rfl
theorem ex_last : ∀ k, k < 4 → lastS (exB k) exS = (k : Int) - 1 := by decide +kernel
theorem ex_check : ∀ k : Nat, k < 4 → checkB (exS, (k : Int), [exEv]) = 0 := by decide +kernel
theorem ex_check0 : checkB (exS, 0, [exEv]) = 0 := ex_check 0 (by omega)
theorem ex_len {L : List BatP} {k : Nat} (h : L.map (·.2) = exB k) : L.length = k := by
  have := congrArg List.length h
  rw [List.length_map] at this
  rw [this]; unfold exB; simp
theorem ex_all {L : List BatP} {k m : Nat} (h : L.map (·.2) = exB k) (hm : m ≤ k) : (allL (L.take m)).length = m := by
  have h1 : (L.take m).map (·.2) = exB m := by
    rw [List.map_take, h]
    unfold exB
    rw [← List.map_take, List.take_range, Nat.min_eq_left hm]
  rw [allL_map, h1]
  unfold allS exB
  clear h h1 hm
  induction m with
  | zero => rfl
  | succ m ih => rw [List.range_succ, List.map_append, List.flatMap_append, List.length_append, ih]; rfl
theorem ex_take {L : List BatP} {k m : Nat} (h : L.map (·.2) = exB k) (hm : m ≤ k) : (allL L).take m = allL (L.take m) := by
  have h1 := ex_all h hm
  have h2 : allL L = allL (L.take m) ++ allL (L.drop m) := by rw [← allL_append, List.take_append_drop]
  generalize allL (L.take m) = a at h1 h2 ⊢
  generalize allL (L.drop m) = b at h2
  subst h1
  rw [h2, List.take_left]
theorem types_neT : (48 : TypeId) ≠ 56 := by decide
theorem ex_app {L : List BatP} {k : Nat} (h : L.map (·.2) = exB k) (hk : k < 4) : appE L exS ((k : Int) - 1) [exEv] = 0 ∧ lastL L exS + 1 = (k : Int) := by
  have h1 : lastL L exS = (k : Int) - 1 := by rw [lastL_map, h]; exact ex_last k hk
  refine ⟨?_, by omega⟩
  unfold appE
  rw [if_neg (by rw [ex_check0]; decide), if_neg (by omega), if_neg (by omega), h1, show (k : Int) - 1 + 1 = (k : Int) by omega]
  exact ex_check k hk
theorem ex_no {L : List BatP} (h : L.map (·.2) = exB 3) : appE L exS 0 [exEv] = 80 := by
  have h1 : lastL L exS = 2 := by rw [lastL_map, h]; exact ex_last 3 (by omega)
  unfold appE
  rw [if_neg (by rw [ex_check0]; decide), if_neg (by omega), if_pos (by rw [h1]; omega)]
theorem ex_evs {w : World} {o : Nat} (h : Row w o 46 (evL exEv)) : Evs w (.slice (some ⟨o, 0, none⟩) 1 1) [exEv] := by
  refine ⟨?_, fun e he => by rw [List.mem_singleton.1 he]; exact ⟨by decide, by decide, by decide⟩⟩
  have := Reads.of_row (size := 3) (n := 1) (cap := 1) h rfl (Nat.le_refl _) (by unfold maxLen; omega)
  simpa [evL] using this
set_option maxRecDepth 100000 in
set_option maxHeartbeats 4000000 in
theorem law_modelled (w : World) :
    Calls Try.prog 7 #[] w fun e w' => e = .returned (.bool true) ∧ Below w.heap.size w w' := by
  obtain ⟨B, hB⟩ : ∃ B, B = w.heap.size := ⟨_, rfl⟩
  have hrM := Row.new w #[.bool true, .slice none 0 0, .int .i64 0] 56
  have hbM := lit2_below' w (.cells #[.bool true, .slice none 0 0, .int .i64 0] 56) (.cells (evC exEv) 46)
  have hrO := Row.new (w.alloc (.cells #[.bool true, .slice none 0 0, .int .i64 0] 56)) (evC exEv) 46
  have hrM2 := hrM.next (lit_below (w.alloc (.cells #[.bool true, .slice none 0 0, .int .i64 0] 56)) (.cells (evC exEv) 46))
  rw [show (w.alloc (.cells #[.bool true, .slice none 0 0, .int .i64 0] 56)).heap.size = w.heap.size + 1 from Array.size_push _] at hrO
  have hM0 : ModW ((w.alloc (.cells #[.bool true, .slice none 0 0, .int .i64 0] 56)).alloc (.cells (evC exEv) 46)) w.heap.size w.heap.size (.slice none 0 0) [] 0 :=
    ⟨hrM2, Nat.le_refl _, .inl (World.ownsRow_nil _ _ _ _), fun p hp => by cases hp⟩
  have hrO2 : Row ((w.alloc (.cells #[.bool true, .slice none 0 0, .int .i64 0] 56)).alloc (.cells (evC exEv) 46)) (w.heap.size + 1) 46 (evL exEv) := hrO
  rw [← hB] at hM0 hrO2 hbM
  have HB := Lib.hid hB
  have H0 := Lib.hid hM0
  have HO := Lib.hid hrO2
  have HbM := Lib.hid hbM
  clear hrM hrO hrM2 hM0 hrO2 hbM
  go_enter Try.func7, Try.ntmps7
  go_wp2_with fail
  refine (model_New _).mono ?_
  rintro e w1 ⟨rfl, rfl⟩
  rw [← hB]
  go_wp2_with fail
  rw [show w.heap.size = B from hB.symm]
  clear hB
  go_loopw [3] (fun i wr => ∃ (k : Nat) (L : List BatP) (v : Value), k ≤ 3 ∧ i = .int .i64 (k : Int) ∧ ModW wr B B v L (if 2 ≤ k then 2 else 0) ∧ L.map (·.2) = exB k ∧ Row wr (B + 1) 46 (evL exEv) ∧ Below B w wr) (fun i _ => 3 - (intOf i).toNat)
  case atStart => exact ⟨0, [], _, by omega, rfl, H0.out, rfl, HO.out, HbM.out⟩
  case round =>
    obtain ⟨k, L, v, hk, rfl, hM, hLk, hO, hbr⟩ := hrel
    have hL := ex_len hLk
    by_cases hlt : k < 3
    · have i1 : (k : Int) < 3 := by omega
      obtain ⟨hA0, hA1⟩ := ex_app hLk (by omega)
      have hap := model_Append hM exS ((k : Int) - 1) _ [exEv] (ex_evs hO) (by simp) (by decide) (by omega) (by rw [HB.out, ← HB.out]; exact Nat.le_trans (by rw [HB.out]; exact Nat.le_refl _) hbr.size) (by omega)
      have hne := hM.own_ne hO (fun h => types_neM.2.2 h.symm)
      have HAP := Lib.hid hap
      have HNE := Lib.hid hne
      have HA0 := Lib.hid hA0
      have HA1 := Lib.hid hA1
      have HLK := Lib.hid hLk
      have HO1 := Lib.hid hO
      have HBR := Lib.hid hbr
      have HM := Lib.hid hM
      clear hap hne hA0 hA1 hLk hO hbr hM
      go_wp2_with fail
      refine HAP.out.mono ?_
      rintro e w2 ⟨-, hy⟩
      obtain ⟨rfl, v', pe, hM2, hK2, -⟩ := hy HA0.out
      rw [HA1.out] at hM2 ⊢
      have hO2 := hK2.row HO1.out (by omega) HNE.out
      have hb2 := below_chain' HBR.out hK2 (by rw [HB.out]; exact HBR.out.size) (Nat.le_refl _) (fun q hq => by
        rcases HM.out.2.2.1 with ho | ⟨b9, hv9, hb9, -⟩
        · exact own_block_ge ho q hq
        · rw [hv9] at hq; simp [Value.ownBlock] at hq; omega)
      have hL2 : (L ++ [(pe, (exS, (k : Int), [exEv]))]).map (·.2) = exB (k + 1) := by rw [List.map_append, HLK.out, exB_succ]; rfl
      have hlen2 := ex_len hL2
      have HM2 := Lib.hid hM2
      have HO2 := Lib.hid hO2
      have Hb2 := Lib.hid hb2
      have HL2 := Lib.hid hL2
      have HLT := Lib.hid hlt
      clear hM2 hO2 hb2 hL2 hK2 hy HAP
      by_cases hk1 : k = 1
      · have e1 : ((k : Int) == 1) = true := by rw [beq_iff_eq]; omega
        have e2 : (k : Int) = 1 := by omega
        have hfl := model_Flush B v' _ _ w2 HM2.out.r
        rw [hlen2, show k + 1 = 2 from by omega] at hfl
        have hfl2 : Calls Try.prog 15 #[.pointer (some ⟨B, 0, none⟩)] w2 fun e w' => e = .returned (.tuple #[]) ∧ w' = w2.setCell ⟨B, 2, none⟩ (.int .i64 2) := hfl
        have hM3 : ModW (w2.setCell ⟨B, 2, none⟩ (.int .i64 2)) B B v' (L ++ [(pe, (exS, (k : Int), [exEv]))]) (if 2 ≤ k + 1 then 2 else 0) := by
          have h9 := HM2.out.flush 2
          have e9 : (if 2 ≤ k + 1 then 2 else 0) = 2 := by rw [hk1]; rfl
          rw [e9]
          exact h9
        have hO3 := HO2.out.far (p := ⟨B, 2, none⟩) (by show B + 1 ≠ B; omega) (.int .i64 2)
        have hb3 := Hb2.out.setCell (p := ⟨B, 2, none⟩) (Nat.le_refl _) (.int .i64 2)
        clear hfl
        have HM3 := Lib.hid hM3
        have HO3 := Lib.hid hO3
        have Hb3 := Lib.hid hb3
        clear hM3 hO3 hb3 hk1
        go_wp2_with fail
        refine hfl2.mono ?_
        rintro e w3 ⟨rfl, rfl⟩
        go_wp2
        go_roundw
        case rel => exact ⟨k + 1, _, v', by omega, by go_num, HM3.out, HL2.out, HO3.out, Hb3.out⟩
        case measure => simp [intOf]; omega
      · have e1 : ((k : Int) == 1) = false := by rw [beq_eq_false_iff_ne]; omega
        have e2 : ¬ (k : Int) = 1 := by omega
        have hM3 : ModW w2 B B v' (L ++ [(pe, (exS, (k : Int), [exEv]))]) (if 2 ≤ k + 1 then 2 else 0) := by
          have h9 := HM2.out
          have e9 : (if 2 ≤ k then 2 else 0) = (if 2 ≤ k + 1 then 2 else 0) := by
            rcases (show k = 0 ∨ k = 2 from by omega) with rfl | rfl <;> rfl
          rw [e9] at h9
          exact h9
        have HM3 := Lib.hid hM3
        clear hM3 hk1
        go_wp2
        go_roundw
        case rel => exact ⟨k + 1, _, v', by omega, by go_num, HM3.out, HL2.out, HO2.out, Hb2.out⟩
        case measure => simp [intOf]; omega
    · obtain rfl : k = 3 := by omega
      have hM2 : ModW wr B B v L 2 := hM
      have hno := ex_no hLk
      have hap := model_Append hM2 exS 0 _ [exEv] (ex_evs hO) (by simp) (by decide) (by omega) (by rw [HB.out, ← HB.out]; exact Nat.le_trans (by rw [HB.out]; exact Nat.le_refl _) hbr.size) (by omega)
      have HAP := Lib.hid hap
      have HNOO := Lib.hid hno
      have HM := Lib.hid hM2
      have HLK := Lib.hid hLk
      have HBR := Lib.hid hbr
      have HLL := Lib.hid hL
      clear hap hno hM hM2 hLk hO hbr hL
      go_wp2_with fail
      refine HAP.out.mono ?_
      rintro e w2 ⟨hy, -⟩
      obtain ⟨rfl, hb2⟩ := hy (by rw [HNOO.out]; decide)
      rw [HNOO.out]
      have hM2 := Lib.hid (HM.out.next hb2)
      have hB2 := Lib.hid (below_more HBR.out hb2 (by have := HB.out; omega))
      have hmany := model_Many B v L 2 w2 hM2.out.r (by rw [HLL.out]; omega)
      rw [HLL.out] at hmany
      clear hy HAP hb2
      go_wp2_with fail
      refine hmany.mono ?_
      rintro e w3 ⟨rfl, hb3⟩
      have hM3 := Lib.hid (hM2.out.next hb3)
      have hall := model_All B v L 2 w3 hM3.out.r (by rw [HLL.out]; omega)
      go_wp2_with fail
      refine hall.mono ?_
      rintro e w4 ⟨vt, rfl, hown, hb4⟩
      have hTl : (allL L).length = 3 := by
        have := ex_all HLK.out (m := 3) (by omega)
        rw [List.take_of_length_le (by rw [HLL.out]; omega)] at this
        exact this
      have hM4 := Lib.hid (hM3.out.next hb4)
      obtain ⟨At, ct, rfl, hct, -⟩ := Reads.of_own hown
      have hT4 : Tolds w4 (.slice At (allL L).length ct) (allL L) := ⟨Reads.of_own hown, allL_ok (fun p hp => (hM4.out.2.2.2 p hp).2)⟩
      have hB4 := Lib.hid (below_more hB2.out (below_chain hb3 hb4) (by have := HB.out; omega))
      rw [hTl] at hT4 hct ⊢
      have hF1 := Lib.hid (hT4.front 1 (by omega))
      have hF2 := Lib.hid (hT4.front 2 (by omega))
      have hct1 : 1 ≤ ct := by omega
      have hct2 : 2 ≤ ct := by omega
      have HTL := Lib.hid hTl
      have HOWN := Lib.hid hown
      clear hown hT4 hTl hall hmany hb3 hb4 hM2 hM3 HM HBR hB2
      go_wp2_with fail
      refine (model_Cut hM4.out _ _ hF1.out (by rw [List.length_take]; omega) (by rw [HLL.out]; omega)).mono ?_
      rintro e w5 hc5
      rcases hc5 with ⟨rfl, -, hb5⟩ | ⟨k, v9, -, hk9, -⟩
      · have hM5 := Lib.hid (hM4.out.next hb5)
        have hO5 := Lib.hid (own_next HOWN.out hb5)
        have hF5 := Lib.hid (hF2.out.next hb5)
        have hB5 := Lib.hid (below_more hB4.out hb5 (by have := HB.out; omega))
        clear hb5
        go_wp2_with fail
        refine (model_Cut hM5.out _ _ hF5.out (by rw [List.length_take]; omega) (by rw [HLL.out]; omega)).mono ?_
        rintro e w6 hc6
        have htk := ex_take HLK.out (m := 2) (by omega)
        rcases hc6 with ⟨-, hno9, -⟩ | ⟨k, v9, rfl, hk9, hM6, hK6⟩
        · exact absurd ⟨by rw [HLL.out]; omega, by omega, htk.symm⟩ (hno9 2)
        · have hk2 : k = 2 := by
            have h1 := congrArg List.length hk9.2.2
            have h2 := hk9.1
            rw [HLL.out] at h2
            rw [ex_all HLK.out (by omega), List.length_take, HTL.out] at h1
            omega
          subst hk2
          have hO6 := own_keepR (w' := w6) hO5.out (fun q hq => hK6.block q (own_lt hO5.out q hq) (own_other hO5.out hM5.out.1 types_neT q hq) (by simp))
          have hT6 : Tolds w6 (.slice At (allL L).length ct) (allL L) := ⟨Reads.of_own hO6, allL_ok (fun p hp => (hM5.out.2.2.2 p hp).2)⟩
          have hb6 := below_chain' hB5.out hK6 (by have := HB.out; have := hB5.out.size; omega) (Nat.le_refl _) (fun q hq => by cases hq)
          have hF6 := Lib.hid (hT6.front 2 (by rw [HTL.out]; omega))
          have hl2 : (L.take 2).length = 2 := by rw [List.length_take, HLL.out]; rfl
          have hmany := model_Many B v9 _ 2 w6 hM6.r (by omega)
          rw [hl2] at hmany
          have hM6' := Lib.hid hM6
          have hb6' := Lib.hid hb6
          have HTK := Lib.hid htk
          have HL2 := Lib.hid hl2
          clear hO6 hT6 hb6 hM6 hK6 hk9 hO5 hM5 hF5 htk hl2
          go_wp2_with fail
          refine hmany.mono ?_
          rintro e w7 ⟨rfl, hb7⟩
          go_wp2_with fail
          refine (model_Cut (hM6'.out.next hb7) _ _ (hF6.out.next hb7) (by rw [List.length_take]; omega) (by rw [HL2.out]; omega)).mono ?_
          rintro e w8 hc8
          rcases hc8 with ⟨-, hno9, -⟩ | ⟨k, v8, rfl, hk9, -, hK8⟩
          · exact absurd ⟨by rw [HL2.out]; omega, by omega, by rw [List.take_take, HTK.out]; rfl⟩ (hno9 2)
          · have hb7' := below_more hb6'.out hb7 (by have := HB.out; have := hb6'.out.size; omega)
            have hb8 := below_chain' hb7' hK8 (by have := HB.out; have := hb7'.size; omega) (Nat.le_refl _) (fun q hq => by cases hq)
            have Hb8 := Lib.hid hb8
            clear hb8 hK8 hb7' hb7
            go_wp2
            go_ret
            exact ⟨rfl, by have := Hb8.out; rw [HB.out] at this; exact this⟩
      · exfalso
        have h1 := congrArg List.length hk9.2.2
        have h2 := hk9.1
        have h3 := hk9.2.1
        rw [HLL.out] at h2
        rw [ex_all HLK.out (by omega), List.length_take, HTL.out] at h1
        omega
end Go.Proofs.Ytmplabhofhllmaa
