/-
  Rows.ModelNoneSaid: a model that is none has nothing.
-/
import Derived.Test.YtmplabhofhllmaaOpenActM
import Derived.Test.YtmplabhofhllmaaModNone
namespace Go.Proofs.Ytmplabhofhllmaa
open Go.RowKit
set_option linter.unusedVariables false

theorem act_lit (w : World) (p : ActP) (h : actOk w p) : ActsV (w.alloc (.cells (actA p) 34)) (.slice (some ⟨w.heap.size, 0, none⟩) 1 1) [p] := by
  refine ⟨?_, fun q hq => by rw [List.mem_singleton.1 hq]; exact h.next (lit_below w _)⟩
  have := Reads.of_row (size := 5) (n := 1) (cap := 1) (Row.new w (actA p) 34) rfl (Nat.le_refl _) (by unfold maxLen; omega)
  simpa [actA, actL] using this
set_option maxRecDepth 100000 in
set_option maxHeartbeats 4000000 in
theorem ModelNone_walk (v : Value) (p : ActP) (w : World) (h : ActIsM w v p) :
    Calls Try.prog 4 #[v] w fun e w' => e = .returned (.bool true) ∧ Below w.heap.size w w' := by
  obtain ⟨rfl, hok⟩ := h
  have hz := lit_below w (.cells (actA p) 34)
  have hr1 := Row.new w (actA p) 34
  have hok1 := hok.next hz
  have hacts := act_lit _ p hok1
  have hz2 := lit2_below' w (.cells (actA p) 34) (.cells (actA p) 34)
  rw [show (w.alloc (.cells (actA p) 34)).heap.size = w.heap.size + 1 from Array.size_push _] at hacts
  have hgr := law_Great _ [p] 1 _ hacts (by omega)
  have hr2 := hr1.next (lit_below (w.alloc (.cells (actA p) 34)) (.cells (actA p) 34))
  have hok2 := hok.next hz2
  obtain ⟨pv, ⟨pk, ps, pa, pb, pl⟩⟩ := p
  obtain ⟨⟨A, c, hv, -⟩, -⟩ := id hok.1
  dsimp only at hv
  subst hv
  unfold actA at *
  dsimp only at *
  have c0 := hr1.cell 0 (by simp)
  have c1 := hr1.cell 1 (by simp)
  have c2 := hr1.cell 2 (by simp)
  have c3 := hr1.cell 3 (by simp)
  have c4 := hr1.cell 4 (by simp)
  simp only [List.getElem_cons_zero, List.getElem_cons_succ] at c0 c1 c2 c3 c4
  have HZ := Lib.hid hz2
  have HR := Lib.hid hr2
  have HOK := Lib.hid hok2
  have HGR := Lib.hid hgr
  clear hz hr1 hok hok1 hacts hz2 hr2 hok2 hgr
  go_enter Try.func4, Try.ntmps4
  go_wp2_with fail
  refine HGR.out.mono ?_
  rintro e w' ⟨rfl, b, rfl, hb⟩
  generalize ((w.alloc (.cells #[.int .u8 (pk : Int), .string ps, .int .i64 pa, .int .i64 pb, .slice A pl.length c] 34)).alloc (.cells #[.int .u8 (pk : Int), .string ps, .int .i64 pa, .int .i64 pb, .slice A pl.length c] 34)) = W at *
  clear c0 c1 c2 c3 c4 HGR
  cases b with
  | true =>
    clear hb
    go_wp2_with fail
    refine (law_modelled _).mono ?_
    rintro e w1 ⟨rfl, hb1⟩
    go_wp2
    go_ret
    exact ⟨rfl, below_chain HZ.out hb1⟩
  | false =>
    obtain ⟨-, hsm⟩ := hb rfl
    have hsm1 := hsm _ (List.mem_singleton.2 rfl)
    have hpl : pl.length ≤ 20 := hsm1.2
    have HC := Lib.hid (fun w' (hb : Below W.heap.size W w') => (HR.out.next hb))
    clear hb hsm hsm1
    go_wp2_with fail
    go_loopw [3, 4] (fun m i wr => ∃ k : Nat, k ≤ 2 ∧ i = .int .i64 (k : Int) ∧ NoneV wr m ∧ Below W.heap.size W wr) (fun _ i _ => 2 - (intOf i).toNat)
    case atStart => exact ⟨0, by omega, rfl, .inl rfl, Below.refl _ _⟩
    case round =>
      obtain ⟨k, hk, rfl, hno, hbr⟩ := hrel
      obtain ⟨o, rfl⟩ := hno.ptr
      by_cases hlt : k < 2
      · have i1 : (k : Int) < 2 := by omega
        have hca := fun w' hb => (HC.out w' hb).cell 1 (by simp)
        have hcb := fun w' hb => (HC.out w' hb).cell 2 (by simp)
        have hcc := fun w' hb => (HC.out w' hb).cell 3 (by simp)
        have hcd := fun w' hb => (HC.out w' hb).cell 4 (by simp)
        simp only [List.getElem_cons_zero, List.getElem_cons_succ] at hca hcb hcc hcd
        have HCA := Lib.hid hca
        have HCB := Lib.hid hcb
        have HCC := Lib.hid hcc
        have HCD := Lib.hid hcd
        have x1 := hca _ hbr
        have x2 := hcb _ hbr
        have x3 := hcc _ hbr
        have x4 := hcd _ hbr
        have cA := none_Append _ ps pa _ pl wr hno (HOK.out.next hbr).1 (by omega) HOK.out.2.2.1
        have HNO := Lib.hid hno
        have HBR := Lib.hid hbr
        clear hca hcb hcc hcd hno hbr
        go_wp2_with fail
        refine cA.mono ?_
        rintro e w2 ⟨rfl, hb2⟩
        have hno2 := HNO.out.next hb2
        have hbr2 := below_chain HBR.out hb2
        have y1 := HCA.out _ hbr2
        have y2 := HCB.out _ hbr2
        have y3 := HCC.out _ hbr2
        have HN2 := Lib.hid hno2
        have HB2 := Lib.hid hbr2
        clear cA x1 x2 x3 x4 hno2 hbr2 hb2
        go_wp2_with fail
        refine (none_Forward _ ps pa pb _ HN2.out).mono ?_
        rintro e w' ⟨rfl, rfl⟩
        go_wp2_with fail
        refine (none_Backward _ ps pa pb _ HN2.out).mono ?_
        rintro e w' ⟨rfl, rfl⟩
        go_wp2_with fail
        refine (none_Last _ ps _ HN2.out).mono ?_
        rintro e w' ⟨rfl, rfl⟩
        go_wp2_with fail
        refine (none_Flush _ _ HN2.out).mono ?_
        rintro e w' ⟨rfl, rfl⟩
        go_wp2_with fail
        refine (none_Many _ _ HN2.out).mono ?_
        rintro e w' ⟨rfl, rfl⟩
        go_wp2_with fail
        refine (none_Cut _ _ _ HN2.out).mono ?_
        rintro e w' ⟨rfl, rfl⟩
        go_wp2_with fail
        refine (none_All _ _ HN2.out).mono ?_
        rintro e w' ⟨rfl, rfl⟩
        go_wp2
        go_roundw
        case rel =>
          refine ⟨k + 1, by omega, by go_num, .inr ⟨_, _, _, rfl, Row.new _ _ _⟩, below_chain HB2.out (lit_below _ _)⟩
        case measure => simp [intOf]; omega
      · obtain rfl : k = 2 := by omega
        go_wp2_with fail
        refine (law_modelled _).mono ?_
        rintro e w1 ⟨rfl, hb1⟩
        go_wp2
        go_ret
        exact ⟨rfl, below_chain HZ.out (below_chain hbr hb1)⟩
end Go.Proofs.Ytmplabhofhllmaa
