/-
  records.Whole by its contract.
-/
import Derived.Test.YtjcdkekmploelaaEach
namespace Go.Proofs.Ytjcdkekmploelaa
open Go.RowKit Go.Shelf
set_option linter.unusedVariables false

attribute [local go_sem] Oper.semAt_some

/-- What the rounds have left in the two named results. -/
def Gathered (w : World) (f : Nat) (pre : List (Nat × Nat)) (W : World) : Prop :=
  (∃ v, Boxed W w.heap.size 30 v ∧ W.ownsRow (w.heap.size + 4) 3 1 v pre.length (natsC (pre.map Prod.fst)) ∧ True) ∧
  Boxed W (w.heap.size + 1) 3 (.int .i64 (((pre.getLast?).map Prod.snd).getD f : Nat)) ∧ Below w.heap.size w W ∧ w.heap.size + 4 ≤ W.heap.size

theorem gathered_own (w : World) (f : Nat) : OwnFrom (w.heap.size + 4) (Gathered w f) :=
  OwnFrom.and (Own.from (holdsRow_own (w.heap.size + 4) w.heap.size 30 3 1 (fun pre : List (Nat × Nat) => pre.length) (fun pre => natsC (pre.map Prod.fst)) (fun _ _ => True)) _)
    (OwnFrom.and (Own.from (boxed_own (w.heap.size + 1) 3 (fun pre : List (Nat × Nat) => .int .i64 (((pre.getLast?).map Prod.snd).getD f : Nat))) _) (OwnFrom.and (ownFrom_below (Nat.le_refl _) (by omega)) (fun _ _ _ _ hs hg _ => Nat.le_trans hs hg.size)))
theorem gathered_step {W w1 : World} {B m n : Nat} {v v' u u' : Value} {xs ys : List Value} {tmp : Obj} (hv : Boxed W B 30 v) (hrow : W.ownsRow (B + 4) 3 1 v n xs) (h5 : Boxed W (B + 1) 3 u) (hsz : B + 4 ≤ W.heap.size)
    (hown' : w1.ownsRow (B + 4) 3 1 v' m ys) (hgrow : (W.alloc tmp).grownBy w1 v.ownBlock) :
    (Boxed w1 B 30 v ∧ Boxed w1 (B + 1) 3 u) ∧ Boxed (w1.setCell ⟨B, 0, none⟩ v') (B + 1) 3 u ∧
      (Boxed ((w1.setCell ⟨B, 0, none⟩ v').setCell ⟨B + 1, 0, none⟩ u') B 30 v' ∧ ((w1.setCell ⟨B, 0, none⟩ v').setCell ⟨B + 1, 0, none⟩ u').ownsRow (B + 4) 3 1 v' m ys ∧ Boxed ((w1.setCell ⟨B, 0, none⟩ v').setCell ⟨B + 1, 0, none⟩ u') (B + 1) 3 u' ∧
        (∀ K, KeepsFrom K W ((w1.setCell ⟨B, 0, none⟩ v').setCell ⟨B + 1, 0, none⟩ u')) ∧ KeepsBox (B + 1 + 1) W ((w1.setCell ⟨B, 0, none⟩ v').setCell ⟨B + 1, 0, none⟩ u') ∧ Below B W ((w1.setCell ⟨B, 0, none⟩ v').setCell ⟨B + 1, 0, none⟩ u')) := by
  have hge := own_block_ge hrow
  have k0 : some B ≠ v.ownBlock := fun e => by have := hge B e.symm; omega
  have k1 : some (B + 1) ≠ v.ownBlock := fun e => by have := hge _ e.symm; omega
  have k2 : some (B + 1 + 1) ≠ v.ownBlock := fun e => by have := hge _ e.symm; omega
  have a1 : Boxed w1 B 30 v := (hv.alloc tmp).kept hgrow k0
  have a2 : Boxed w1 (B + 1) 3 u := (h5.alloc tmp).kept hgrow k1
  have a3 : Boxed (w1.setCell ⟨B, 0, none⟩ v') (B + 1) 3 u := a2.other (by omega) v'
  refine ⟨⟨a1, a2⟩, a3, (a1.set v').other (by omega) u', ownsRow_setCell_below (ownsRow_setCell_below hown' (by show B < B + 4; omega) _) (by show B + 1 < B + 4; omega) _, a3.set u', fun K => ?_, ?_, ?_⟩
  · refine ((((KeepsOthers.alloc W tmp).trans (KeepsOthers.of_grownBy hgrow fun j o ej hj => ?_)).trans (KeepsOthers.setCell _ _ _)).trans (KeepsOthers.setCell _ _ _)).from K
    rcases (hrow.alloc tmp).2 with ⟨rfl, _⟩ | ⟨g, cap, cur, rfl, _, hgb, _⟩
    · simp [Value.ownBlock] at ej
    · obtain rfl : g = j := by simpa [Value.ownBlock] using ej
      rw [hgb] at hj; cases hj; rfl
  · unfold KeepsBox
    rw [Below.heap_setCell _ _ _ _ (by show B + 1 + 1 ≠ B + 1; omega), Below.heap_setCell _ _ _ _ (by show B + 1 + 1 ≠ B; omega)]
    exact (hgrow.block _ (by simp; omega) k2).trans (Below.heap_alloc W tmp _ (by omega))
  · exact (((((Below.refl B W).alloc (by omega) tmp).grown hgrow (by simp; omega) (fun k e => by have := hge k e; omega)).setCell (p := ⟨B, 0, none⟩) (Nat.le_refl _) v').setCell (p := ⟨B + 1, 0, none⟩) (by show B ≤ B + 1; omega) u')

set_option maxRecDepth 100000 in
set_option maxHeartbeats 2000000 in
theorem records_Whole (s : ByteArray) (a : Int) (w : World) (hs : s.size ≤ 1000000000000) (ha : -9223372036854775808 ≤ a ∧ a ≤ 9223372036854775807) :
    Calls Try.prog 23 #[.string s, .int .i64 a] w (WholeTold (lb s) a w) := by
  obtain ⟨ha1, ha2⟩ := ha
  by_cases hsh : a < 0 ∨ (s.size : Int) < a
  · have h1 : wAt (lb s) a = [] := by unfold wAt; rw [if_pos (by rw [length_lb]; exact hsh)]
    have h2 : wEnd (lb s) a = 0 := by unfold wEnd; rw [if_pos (by rw [length_lb]; exact hsh)]
    have H1 := Lib.hid h1
    have H2 := Lib.hid h2
    clear h1 h2
    rcases (show a < 0 ∨ (¬ a < 0 ∧ (s.size : Int) < a) from by omega) with h | ⟨h, h'⟩
    all_goals
      clear hsh
      go_enter Try.func23, Try.ntmps23
      go_wp2
      refine bodyPost_ret (v := .tuple #[.slice none 0 0, .int .i64 0]) (by simp [results, Try.results23, go_sem]) rfl ⟨_, ret_vi (by rw [H2.out]; rfl), ?_, ((Below.refl _ _).alloc (Nat.le_refl _) _).alloc (by simp) _⟩
      rw [H1.out]; exact Reads.nil _ _
  · obtain ⟨f, rfl⟩ := Int.eq_ofNat_of_zero_le (a := a) (by omega)
    have hf : f ≤ s.size := by omega
    have hk1 : decide (s.size < f) = false := by rw [decide_eq_false_iff_not]; omega
    have hk0 : decide ((f : Int) < 0) = false := by rw [decide_eq_false_iff_not]; omega
    obtain ⟨i0, hi0, hz0, hz1, hz2⟩ := info_parts infoInt
    refine (callsIn_wide (n := 5)).1 ?_
    refine callsIn_of_wp_marks Try.func23 rfl trivial ?_ rfl
    simp only [Try.ntmps23, List.size_toArray, List.length_cons, List.length_nil, Nat.reduceAdd, Nat.reduceSub, Array.replicate_succ, Array.replicate_zero, List.push_toArray, List.append_toArray, List.nil_append, List.cons_append]
    clear hsh
    gi_wp2_with fail
    refine ⟨trivial, ?_⟩
    refine (callsIn_wide.2 (rec_each _ _ _)).mono ?_
    rintro e w1 ⟨rfl, rfl⟩
    gi_wp2_with fail
    obtain ⟨W0, hW0⟩ : ∃ W0, W0 = ((((w.alloc (Obj.cells #[Value.slice none 0 0] 30)).alloc (Obj.cells #[Value.int IntKind.i64 (f : Int)] 3)).alloc (Obj.cells #[Value.string s] 9)).alloc (Obj.cells #[Value.int IntKind.i64 (f : Int)] 3)) := ⟨_, rfl⟩
    have b4 : Boxed W0 w.heap.size 30 (.slice none 0 0) := by rw [hW0]; exact (((Boxed.new w _ _).alloc _).alloc _).alloc _
    have b5 : Boxed W0 (w.heap.size + 1) 3 (.int .i64 (f : Int)) := by
      rw [hW0]; have := Boxed.new (w.alloc (Obj.cells #[Value.slice none 0 0] 30)) 3 (.int .i64 (f : Int)); rw [World.size_alloc] at this; exact (this.alloc _).alloc _
    have bS : Boxed W0 (w.heap.size + 1 + 1) 9 (.string s) := by
      rw [hW0]; have := Boxed.new ((w.alloc (Obj.cells #[Value.slice none 0 0] 30)).alloc (Obj.cells #[Value.int IntKind.i64 (f : Int)] 3)) 9 (.string s); rw [World.size_alloc, World.size_alloc] at this; exact this.alloc _
    have bF : Boxed W0 (w.heap.size + 1 + 1 + 1) 3 (.int .i64 (f : Int)) := by
      rw [hW0]; have := Boxed.new (((w.alloc (Obj.cells #[Value.slice none 0 0] 30)).alloc (Obj.cells #[Value.int IntKind.i64 (f : Int)] 3)).alloc (Obj.cells #[Value.string s] 9)) 3 (.int .i64 (f : Int)); rw [World.size_alloc, World.size_alloc, World.size_alloc] at this; exact this
    have hB0 : Below w.heap.size w W0 := by
      rw [hW0]; exact ((((Below.refl _ w).alloc (Nat.le_refl _) _).alloc (by simp) _).alloc (by simp; omega) _).alloc (by simp; omega) _
    have hsz : W0.heap.size = w.heap.size + 4 := by rw [hW0]; simp
    rw [← hW0]
    clear hW0
    refine wpIn_rangeFunc_ownG rfl (by omega) (gf := 49) (lb := #[.pointer (some ⟨w.heap.size + 1 + 1 + 1, 0, none⟩), .pointer (some ⟨w.heap.size + 1 + 1, 0, none⟩)]) rfl trivial (enters_of Try.func49 (by kernel_rfl) rfl)
      (rec_stops _ (by omega) (w.heap.size + 1 + 1) (w.heap.size + 1 + 1 + 1) s f hs hf W0 bS bF) keepsBox_t (keepsBox_b (by omega)) (Below.refl _ _) (fun _ => rfl)
      (Gathered w f) (fun _ _ _ => False)
      ?own (fun _ _ _ _ _ hs _ _ => hs)
      ⟨⟨_, b4, World.ownsRow_nil _ _ _ _, trivial⟩, b5, hB0, by omega⟩
      (fun x => { tmps := #[.string s, .int .i64 (f : Int), undef, undef, .pointer (some ⟨w.heap.size, 0, none⟩), .pointer (some ⟨w.heap.size + 1, 0, none⟩), .int .i64 ((x.1 : Nat) : Int), .int .i64 ((x.2 : Nat) : Int), .int .i64 (f : Int), .bool false, .bool false, .int .i64 (f : Int), .string s, .int .i64 (s.size : Int), .bool false, .bool false, .int .i64 (f : Int), .string s, .int .i64 (f : Int),
        .func (.func 49) #[] #[.pointer (some ⟨w.heap.size + 1 + 1 + 1, 0, none⟩), .pointer (some ⟨w.heap.size + 1 + 1, 0, none⟩)], .int .i64 ((x.1 : Nat) : Int), .int .i64 ((x.2 : Nat) : Int), undef, undef, undef, undef, undef, undef, undef], defers := [] }) ?assign ?body ?done ?stop
    case own => rw [hsz]; exact gathered_own w f
    case assign =>
      intro l x W K hK
      gi_wp2
      exact hK
    case body =>
      rintro l pre x W ⟨⟨v, hv, hrow, -⟩, h5, hB, hszW⟩ hlt
      have hc := hv.cell
      gi_wp2_with (gi_at_builtin; refine wpListIn_append_own _ rfl _ _ 30 rfl (w.heap.size + 4) 3 i0 (.int .i64 0) 1 8 Try.underlying30 hi0 hz0 hz1 hz2 rfl (by decide) _ _ _ rfl (hrow.alloc _) ⟨W.heap.size, 0, none⟩ 1 1 [.int .i64 ((x.1 : Nat) : Int)] rfl rfl (cell_one _ _ _) (by intro u hu; simp at hu; subst hu; rfl) (by unfold maxLen; omega) (by omega) (by simp; omega) ?_; intro v' w1 hown' hgrow _; obtain ⟨g', cap', rfl⟩ := ownsRow_succ hown'; obtain ⟨⟨hv1, h51⟩, h52, hfin⟩ := gathered_step (u' := .int .i64 ((x.2 : Nat) : Int)) hv hrow h5 hszW hown' hgrow; have hc1 := hv1.cell; have hf1 := hv1.frozen; have hc2 := h52.cell; have hf2 := h52.frozen)
      obtain ⟨g1, g2, g3, g4, g5, g6⟩ := hfin
      refine ⟨g4 _, g5, ⟨_, g1, by rw [List.map_append, List.map_cons, List.map_nil, natsC_snoc, List.length_append]; exact g2, trivial⟩, by simpa using g3, hB.trans g6, Nat.le_trans hszW (g4 0).size⟩
    case done =>
      rintro D ys W hD hS ⟨⟨v, hv, hrow, -⟩, h5, hB, hszW⟩ hK
      have hc := hv.cell
      have hc5 := h5.cell
      have hf := hv.frozen
      have hf5 := h5.frozen
      obtain ⟨A, c, rfl⟩ : ∃ A c, v = .slice A ys.length c := by
        rcases hrow.2 with ⟨rfl, hn⟩ | ⟨g, cap, cur, rfl, _⟩
        · exact ⟨none, 0, by rw [hn]⟩
        · exact ⟨_, _, rfl⟩
      have Hrow := Lib.hid hrow
      have HS := Lib.hid hS
      have HK := Lib.hid hK
      clear hrow hS hK
      gi_wp2
      gi_region
      gi_wp2
      obtain ⟨u, hu⟩ : ∃ u : Nat, u = ((ys.getLast?).map Prod.snd).getD f := ⟨_, rfl⟩
      rw [← hu] at h5 hc5 ⊢
      have b1 := (hv.set (.slice A ys.length c)).other (B' := w.heap.size + 1) (by omega) (.int .i64 (u : Int))
      have b2 := (h5.other (B' := w.heap.size) (by omega) (.slice A ys.length c)).set (.int .i64 (u : Int))
      have hK2 : ((W.setCell ⟨w.heap.size, 0, none⟩ (.slice A ys.length c)).setCell ⟨w.heap.size + 1, 0, none⟩ (.int .i64 (u : Int))).drew.heap[D]? = some (.deferred (some [])) :=
        (((KeepsOthers.setCell W ⟨w.heap.size, 0, none⟩ (.slice A ys.length c)).trans (KeepsOthers.setCell _ ⟨w.heap.size + 1, 0, none⟩ (.int .i64 (u : Int)))).trans (KeepsOthers.drew _)).same D _ HK.out rfl
      have hr2 : ((W.setCell ⟨w.heap.size, 0, none⟩ (.slice A ys.length c)).setCell ⟨w.heap.size + 1, 0, none⟩ (.int .i64 (u : Int))).ownsRow (w.heap.size + 4) 3 1 (.slice A ys.length c) ys.length (natsC (ys.map Prod.fst)) :=
        ownsRow_setCell_below (ownsRow_setCell_below Hrow.out (by show w.heap.size < w.heap.size + 4; omega) _) (by show w.heap.size + 1 < w.heap.size + 4; omega) _
      have hB2 : Below w.heap.size w ((W.setCell ⟨w.heap.size, 0, none⟩ (.slice A ys.length c)).setCell ⟨w.heap.size + 1, 0, none⟩ (.int .i64 (u : Int))) := (hB.setCell (p := ⟨w.heap.size, 0, none⟩) (Nat.le_refl _) _).setCell (p := ⟨w.heap.size + 1, 0, none⟩) (by show w.heap.size ≤ w.heap.size + 1; omega) _
      generalize ((W.setCell ⟨w.heap.size, 0, none⟩ (.slice A ys.length c)).setCell ⟨w.heap.size + 1, 0, none⟩ (.int .i64 (u : Int))) = W2 at b1 b2 hK2 hr2 hB2 ⊢
      have hD4 : w.heap.size + 4 ≤ D := by omega
      have q0 : ∀ o, (W2.drew.putObj D o).cell? ⟨w.heap.size, 0, none⟩ = some (.slice A ys.length c) := fun o => (World.cell?_of_block (World.putObj_heap_other (by show w.heap.size ≠ D; omega))).trans b1.cell
      have q1 : ∀ o, (W2.drew.putObj D o).cell? ⟨w.heap.size + 1, 0, none⟩ = some (.int .i64 (u : Int)) := fun o => (World.cell?_of_block (World.putObj_heap_other (by show w.heap.size + 1 ≠ D; omega))).trans b2.cell
      have e1 : wAt (lb s) (f : Int) = ys.map Prod.fst := HS.out.1
      have e2 : wEnd (lb s) (f : Int) = u := by rw [HS.out.2, hu]
      refine ⟨by simp, .inl ⟨_, _, rfl, run_takeDeferred hK2, ?_⟩⟩
      refine ⟨.tuple #[.slice A ys.length c, .int .i64 (u : Int)], by simp [results, Try.results23, go_sem, q0, q1], ?_⟩
      refine ⟨_, ret_vi (by rw [e2]), ?_, hB2.trans ((below_drewN (Below.refl _ _) 1).trans (belowK_b (w := w) (Nat.le_refl _) W2.drew D _ _ (by omega) hK2 rfl rfl))⟩
      rw [e1, List.length_map]
      exact Reads.of_own (ownsRow_putObj hr2.drew _ hK2 rfl)
    case stop =>
      rintro D c pre W _ _ h _
      exact h.elim
end Go.Proofs.Ytjcdkekmploelaa
