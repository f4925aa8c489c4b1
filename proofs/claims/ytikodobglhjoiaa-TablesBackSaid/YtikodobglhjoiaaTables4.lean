/-
  TABLES: the program's Get.
-/
import Derived.Test.YtikodobglhjoiaaTablesLaw
import Derived.Test.YtikodobglhjoiaaEntRange
import Derived.Test.YtikodobglhjoiaaSumsOpen
namespace Go.Proofs.Ytikodobglhjoiaa
open Go.RowKit
set_option linter.unusedVariables false

/-- What is told: the entries in a row of the call's own, or none. -/
def ToldT (w' : World) (base : Nat) (v : Value) (l : List Ent) : Prop := w'.ownsRow base 25 3 v l.length (entsC l) ∧ ∀ e ∈ l, okE e
theorem toldT_none (w : World) (base : Nat) : ToldT w base (.slice none 0 0) [] := ⟨World.ownsRow_nil _ _ _ _, by simp⟩

set_option maxHeartbeats 2000000 in
theorem tables_Get (s : ByteArray) (w : World) (hs : s.size ≤ 1000000000) :
    Calls Try.prog 45 #[.string s] w fun e w' => ∃ v, e = .returned (.tuple #[v, .int .i64 (tabE (lb s))]) ∧ ToldT w' w.heap.size v (tabL (lb s)) ∧ Below w.heap.size w w' := by
  obtain ⟨hseen, hpar⟩ := seen_tab (s := lb s) (by rw [length_lb]; exact hs)
  go_enter Try.func45, Try.ntmps45
  go_wp2_with fail
  refine (sums_Open s w (by omega)).mono ?_
  rintro e w1 ⟨rfl, hb1⟩
  rcases ho : openOk (lb s) with _ | _
  · have hno : tabOk (lb s) = false := by rw [← hseen]; unfold seenOk; rw [ho]; simp
    go_wp2
    refine bodyPost_ret (v := .tuple #[.slice none 0 0, .int .i64 90]) (by simp [results, Try.results45, go_sem]) rfl ⟨.slice none 0 0, by unfold tabE; rw [hno]; rfl, by unfold tabL; rw [hno]; exact toldT_none _ _, hb1⟩
  · have hA : openA (lb s) = (lb s).take ((lb s).length - 4) := by unfold openA; rw [ho, if_pos rfl]
    rw [hA]
    have htl : ((lb s).take ((lb s).length - 4)).length ≤ 1000000000 := by simp; omega
    unfold seenOk at hseen
    rw [ho] at hseen
    generalize (lb s).take ((lb s).length - 4) = t at hseen hpar htl ⊢
    have hx4 : ((bs t).extract 0 4).toList = t.take 4 := by rw [bs_extract, lb_bs, toList_bs]; simp
    by_cases c2 : t.length < 8
    · have c2' : (t.length : Int) < 8 := by omega
      have hno : tabOk (lb s) = false := by rw [← hseen]; simp; intros; omega
      clear hseen hpar
      go_wp2
      refine bodyPost_ret (v := .tuple #[.slice none 0 0, .int .i64 90]) (by simp [results, Try.results45, go_sem]) rfl ⟨.slice none 0 0, by unfold tabE; rw [hno]; rfl, by unfold tabL; rw [hno]; exact toldT_none _ _, hb1⟩
    · have c2' : ¬ (t.length : Int) < 8 := by omega
      have c28 : (4 : Int) ≤ (t.length : Int) := by omega
      have c48 : (8 : Int) ≤ (t.length : Int) := by omega
      rcases c3 : (t.take 4 == [112, 116, 97, 98]) with _ | _
      · have hno : tabOk (lb s) = false := by rw [← hseen, c3]; simp
        have c3' : (((bs t).extract 0 4).toList == [112, 116, 97, 98]) = false := by rw [hx4]; exact c3
        clear hseen hpar c3 hx4
        go_wp2
        refine bodyPost_ret (v := .tuple #[.slice none 0 0, .int .i64 90]) (by simp [results, Try.results45, go_sem]) rfl ⟨.slice none 0 0, by unfold tabE; rw [hno]; rfl, by unfold tabL; rw [hno]; exact toldT_none _ _, hb1⟩
      · have c3' : (((bs t).extract 0 4).toList == [112, 116, 97, 98]) = true := by rw [hx4]; exact c3
        rw [c3] at hseen
        clear c3 hx4
        have hm4 : ((t.drop 4).take 4).length = 4 := by simp; omega
        have hgn : getN (lb ((bs t).extract 4 8)) = num ((t.drop 4).take 4) := by
          rw [bs_extract, lb_bs, lb_bs]; unfold getN
          rw [List.take_of_length_le (by simp; omega)]
        have hml := num_lt ((t.drop 4).take 4)
        rw [hm4] at hml
        generalize num ((t.drop 4).take 4) = m at hseen hpar hgn hml
        have hr : (bs t).extract 8 t.length = bs (t.drop 8) := by
          rw [bs_extract, lb_bs]
          congr 1
          exact List.take_of_length_le (by simp)
        have hRl : (t.drop 8).length = t.length - 8 := by simp
        generalize hR : t.drop 8 = R at hseen hpar hr hRl
        have hm32 : m < 4294967296 := by omega
        have wm : IntKind.u64.wrap ((m : Int) * 24) = (m : Int) * 24 := by rw [IntKind.wrap_u64]; omega
        have wr' : IntKind.u64.wrap ((R.length : Nat) : Int) = (R.length : Int) := by rw [IntKind.wrap_u64]; omega
        have Hseen := Lib.hid hseen
        have Hpar := Lib.hid hpar
        clear hseen hpar hR hm4
        go_wp2_with fail
        refine (nums_Get _ _ (by rw [bs_extract, size_bs]; simp [maxLen]; omega)).mono ?_
        rintro e w' ⟨rfl, rfl⟩
        rw [hgn]
        clear hgn c3'
        obtain ⟨i0, hi0, hz0, hz1, hz2⟩ := info_parts infoEnt
        by_cases c4 : R.length = m * 24
        · have c4' : (R.length : Int) = (m : Int) * 24 := by omega
          have hm7 : m ≤ 100000000 := by omega
          have Hr := Lib.hid hr
          have HR24 := Lib.hid c4
          have wr2 : ((bs R).size : Int) = (m : Int) * 24 := by rw [size_bs]; exact c4'
          clear c4 hRl
          go_wp2_with fail
          clear hr wr' wr2
          go_loopw [7, 8] (fun x b wr => ∃ k : Nat, k ≤ m ∧ x = .string (bs (R.drop (24 * k))) ∧ partsOk R k = true ∧ wr.ownsRow w.heap.size 25 3 b k (entsC (parsedT R k)) ∧ Below w.heap.size w wr) (fun x _ _ => match x with | .string y => y.size | _ => 0)
          case atStart => exact ⟨0, by omega, by first | rfl | (rw [Hr.out]; rfl), rfl, World.ownsRow_nil _ _ _ _, hb1⟩
          case round =>
            obtain ⟨k, hk, rfl, hpk, hown, hbr⟩ := hrel
            have Hpk := Lib.hid hpk
            have Hown := Lib.hid hown
            clear hpk hown
            have hdl : (R.drop (24 * k)).length = 24 * (m - k) := by rw [List.length_drop, HR24.out]; omega
            by_cases hlt : k < m
            · have hpart : (R.drop (24 * k)).take 24 = partT R k := rfl
              have hnext : (R.drop (24 * k)).drop 24 = R.drop (24 * (k + 1)) := by rw [List.drop_drop]; congr 1
              generalize hX : R.drop (24 * k) = X at hdl hpart hnext ⊢
              have xne : (X == []) = false := by
                cases X
                · simp at hdl; omega
                · rfl
              have x24 : (24 : Int) ≤ (X.length : Int) := by omega
              have hget := fun w => entries_Get ((bs X).extract 0 24) w (by rw [bs_extract, size_bs]; simp [maxLen]; omega)
              have hlb : lb ((bs X).extract 0 24) = partT R k := by rw [bs_extract, lb_bs, lb_bs, ← hpart]; simp
              rw [hlb] at hget
              have hex : (bs X).extract 24 X.length = bs (R.drop (24 * (k + 1))) := by
                rw [bs_extract, lb_bs, ← hnext]
                congr 1
                exact List.take_of_length_le (by simp)
              have hoE : okG (partT R k) = true → okE (getE (partT R k)) := fun h => (put_getE h).2.2
              have hsucc := parsedT_succ R k
              have hps := partsOk_succ R k
              generalize getE (partT R k) = e at hget hoE hsucc
              generalize okG (partT R k) = og at hget hoE hps
              obtain ⟨e1, e2, e3⟩ := e
              unfold entC at hget
              have HoE := Lib.hid hoE
              have Hsucc := Lib.hid hsucc
              have Hps := Lib.hid hps
              have Hex := Lib.hid hex
              have Hdl := Lib.hid hdl
              clear hX hpart hnext hoE hsucc hps hlb hdl
              cases og
              · have hno : tabOk (lb s) = false := by
                  rw [← Hseen.out]
                  have : partsOk R m = false := by
                    rw [← Bool.not_eq_true]
                    intro h
                    unfold partsOk at h
                    have h2 := Hps.out
                    rw [Bool.and_false] at h2
                    have h3 : partsOk R (k + 1) = true := by
                      unfold partsOk
                      rw [List.all_eq_true] at h ⊢
                      exact fun i hi => h i (List.mem_range.2 (by have := List.mem_range.1 hi; omega))
                    rw [h2] at h3; cases h3
                  rw [this]; simp
                go_wp2_with fail
                refine (hget _).mono ?_
                rintro y w3 ⟨rfl, hb3⟩
                go_wp2
                refine bodyPost_ret (v := .tuple #[.slice none 0 0, .int .i64 90]) (by simp [results, Try.results45, go_sem]) rfl ⟨.slice none 0 0, by unfold tabE; rw [hno]; rfl, by unfold tabL; rw [hno]; exact toldT_none _ _, below_more hbr (below_chain hb3 (below_lit _ _)) (Nat.le_refl _)⟩
              · go_wp2_with fail
                refine (hget _).mono ?_
                rintro y w3 ⟨rfl, hb3⟩
                have k3 := below_chain hb3 (below_lit w3 (.cells #[.int .u64 (e1 : Nat), .int .i64 e2, .int .i64 e3] 25))
                have hbw := below_more hbr k3 (Nat.le_refl _)
                have hown3 := own_next Hown.out k3
                have oe := HoE.out (by first | rfl | trivial)
                have hb4 := below_more hbw (below_lit (w3.alloc (.cells #[.int .u64 (e1 : Nat), .int .i64 e2, .int .i64 e3] 25)) (.cells #[.int .u64 (e1 : Nat), .int .i64 e2, .int .i64 e3] 25)) (Nat.le_refl _)
                have hEl : Ents ((w3.alloc (.cells #[.int .u64 (e1 : Nat), .int .i64 e2, .int .i64 e3] 25)).alloc (.cells #[.int .u64 (e1 : Nat), .int .i64 e2, .int .i64 e3] 25)) (.slice (some ⟨w3.heap.size + 1, 0, none⟩) 1 1) [(e1, e2, e3)] := by
                  have h := ents_lit (w3.alloc (.cells #[.int .u64 (e1 : Nat), .int .i64 e2, .int .i64 e3] 25)) (e1, e2, e3) oe
                  have e : (w3.alloc (.cells #[.int .u64 (e1 : Nat), .int .i64 e2, .int .i64 e3] 25)).heap.size = w3.heap.size + 1 := by simp
                  rw [e] at h; exact h
                have hEl1 := hEl.1
                go_wp2_with (first
                  | (at_builtin; refine wpList_append_reads _ rfl _ _ 22 rfl w.heap.size 25 i0 _ 3 24 Try.underlying22 hi0 hz0 hz1 hz2 rfl (by decide) _ k _ rfl (own_next hown3 (below_lit _ _)) _ 1 (entsC [(e1, e2, e3)]) rfl hEl1 (entsC_one _) (by unfold maxLen; omega) (by omega) hb4.size ?_; intro v3 w5 hown5 hg5))
                have hb5 := hb4.grown hg5 hb4.size (own_block_ge hown3)
                go_wp2
                go_roundw
                case rel =>
                  refine ⟨k + 1, by omega, by first | rfl | (rw [Hex.out]), by rw [Hps.out, Hpk.out]; rfl, ?_, hb5⟩
                  rw [Hsucc.out, entsC_append]; exact hown5
                case measure =>
                  have := Hdl.out
                  simp [size_bs]; omega
            · obtain rfl : k = m := by omega
              have hnil : R.drop (24 * k) = [] := List.drop_eq_nil_of_le (by rw [HR24.out]; omega)
              rw [hnil]
              clear hnil
              have xz : (([] : List UInt8) == []) = true := rfl
              have hEn : ∀ e ∈ parsedT R k, okE e := (parts_body Hpk.out).2.2
              have hown2 := Hown.out
              have hlen := Lib.hid (show k = (parsedT R k).length from (length_parsedT R k).symm)
              go_wp2_with fail
              refine (entries_Sorted _ (parsedT R k) _ ⟨by have := Reads.of_own hown2; rw [← hlen.out]; exact this, hEn⟩).mono ?_
              rintro y w3 ⟨rfl, hb3⟩
              have hbw := below_more hbr hb3 (Nat.le_refl _)
              rcases hso : sortedE (parsedT R k) with _ | _
              · have hno : tabOk (lb s) = false := by rw [← Hseen.out, hso]; simp
                go_wp2
                refine bodyPost_ret (v := .tuple #[.slice none 0 0, .int .i64 90]) (by simp [results, Try.results45, go_sem]) rfl ⟨.slice none 0 0, by unfold tabE; rw [hno]; rfl, by unfold tabL; rw [hno]; exact toldT_none _ _, hbw⟩
              · have hyes : tabOk (lb s) = true := by
                  rw [← Hseen.out, hso, Hpk.out]
                  simp
                  refine ⟨?_, HR24.out⟩
                  omega
                have hP : parsedT R k = tabL (lb s) := by
                  unfold tabL
                  rw [hyes, if_pos rfl]
                  refine Hpar.out ?_
                  rw [(seen_tab (s := lb s) (by rw [length_lb]; exact hs)).1]; exact hyes
                have hown4 := own_next hown2 hb3
                have hlen2 := hlen.out
                rw [hP] at hown4 hEn hlen2
                have Hlen2 := Lib.hid hlen2
                clear hlen2
                go_wp2
                refine bodyPost_ret (v := .tuple #[u8, .int .i64 0]) (by simp [results, Try.results45, go_sem]) rfl ⟨u8, by unfold tabE; rw [hyes]; rfl, ⟨by rw [← Hlen2.out]; exact hown4, hEn⟩, hbw⟩
        · have hno : tabOk (lb s) = false := by rw [← Hseen.out]; simp [c4]
          have c4' : ¬ (R.length : Int) = (m : Int) * 24 := by omega
          clear c4
          go_wp2
          refine bodyPost_ret (v := .tuple #[.slice none 0 0, .int .i64 90]) (by simp [results, Try.results45, go_sem]) rfl ⟨.slice none 0 0, by unfold tabE; rw [hno]; rfl, by unfold tabL; rw [hno]; exact toldT_none _ _, hb1⟩
end Go.Proofs.Ytikodobglhjoiaa
