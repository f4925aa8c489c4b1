/-
  LISTS OF EVENTS: the iterator over a list of them, and the program's All.
-/
import Derived.Test.YtiojapjidgjaoaaEvs
import Derived.Test.YtiojapjidgjaoaaRounds2
namespace Go.Proofs.Ytiojapjidgjaoaa
open Go.RowKit Go.Shelf
set_option linter.unusedVariables false

attribute [local go_sem] Oper.semAt_some

/-- An event of a list, and its place. -/
abbrev AtOf (l : List Ev) := { p : Nat × Ev // l[p.1]? = some p.2 }
def places {l : List Ev} (xs : List (AtOf l)) : List Nat := xs.map (·.1.1)
theorem places_snoc {l : List Ev} (xs : List (AtOf l)) (x : AtOf l) : places (xs ++ [x]) = places xs ++ [x.1.1] := by simp [places]
theorem below_grown {w w' : World} (h : Below w.heap.size w w') : w.grownBy w' none := ⟨h.os, h.tape, h.output, h.size, fun k hk _ => h.block k hk⟩
theorem evAll_make (A : Option Addr) (m c : Nat) (w : World) :
    Calls Try.prog 48 #[.slice A m c] w fun e w' => e = .returned (.func (.func 55) #[] #[.pointer (some ⟨w.heap.size, 0, none⟩)]) ∧
      w.alloc (.cells #[.slice A m c] 38) = w' := by
  go_enter Try.func48, Try.ntmps48
  go_wp2
  go_ret
  exact ⟨rfl, rfl⟩

set_option maxRecDepth 100000 in
set_option maxHeartbeats 2000000 in
theorem evAll_each (n : Nat) (hn : 1 ≤ n) (y B : Nat) (l : List Ev) (v : Value) (w W : World) (hW : Below w.heap.size w W) (hE : Evs w v l) (hB : Boxed w B 38 v) (J Jx : List (AtOf l) → World → Prop) (hJ : AbidesFrom W.heap.size J)
    (hY : ∀ pre x W1, J pre W1 → pre.length < l.length → YieldAt Fence.wide (n - 1) Try.prog y #[.int .i64 ((x.1.1 : Nat) : Int), .agg (evC x.1.2)] W1 fun e W' =>
      (e = .returned (.bool true) ∧ J (pre ++ [x]) W' ∧ Below w.heap.size W1 W') ∨ (e = .returned (.bool false) ∧ Jx (pre ++ [x]) W'))
    (h0 : J [] W) :
    CallsIn Fence.wide n Try.prog 55 #[.func (.yield y) #[] #[], .pointer (some ⟨B, 0, none⟩)] W fun e W' => (∃ v, e = .returned v) ∧
      ((∃ xs : List (AtOf l), places xs = List.range l.length ∧ J xs W') ∨ (∃ pre : List (AtOf l), True ∧ Jx pre W')) := by
  obtain ⟨⟨A, c, rfl, -, -, -, -⟩, -⟩ := id hE
  obtain ⟨-, hc1, hc2, -⟩ := Reads.each evL_len hE.1
  unfold maxLen at hc2
  have hL := fun h0 => hE.later h0
  have hbw : Boxed W B 38 (.slice A l.length c) := (hW.block B hB.lt).trans hB
  have hcs := hbw.cell
  obtain ⟨m, hm⟩ : ∃ m, m = l.length := ⟨_, rfl⟩
  rw [← hm] at hcs hc1
  have Hm := Lib.hid hm
  have HL := Lib.hid hL
  have HW := Lib.hid hW
  clear hm hL hE hB hbw hW
  refine callsIn_of_wp Try.func55 rfl trivial ?_ rfl
  simp only [Try.ntmps55, List.size_toArray, List.length_cons, List.length_nil, Nat.reduceAdd, Nat.reduceSub, Array.replicate_succ, Array.replicate_zero, List.push_toArray, List.append_toArray, List.nil_append, List.cons_append]
  gi_wp2
  gi_loopw [7] (fun p wr => ∃ (pre : List (AtOf l)) (k : Nat), p = .int .i64 (k : Int) ∧ k ≤ m ∧ places pre = List.range k ∧ Below w.heap.size w wr ∧ J pre wr) (fun p wr => m - (intOf p).toNat)
  case atStart => exact ⟨[], 0, rfl, Nat.zero_le _, rfl, HW.out, h0⟩
  case round =>
    obtain ⟨pre, k, rfl, hk, hpre, hbr, hJs⟩ := hrel
    have hpl : pre.length = k := by have := congrArg List.length hpre; simpa [places] using this
    have Hpre := Lib.hid hpre
    clear hpre hcs
    by_cases hlt : k < m
    · obtain ⟨x, hx⟩ : ∃ e, l[k]? = some e := ⟨_, List.getElem?_eq_getElem (by rw [← Hm.out]; exact hlt)⟩
      obtain ⟨b, off, rfl, -, hca⟩ := HL.out (by rw [← Hm.out]; omega)
      obtain ⟨c0, c1, c2⟩ := hca k x hx wr hbr
      have i1 : (k : Int) < m := by omega
      have hz := lit_below wr (.cells (evC x) 28)
      have hJ1 : J pre (wr.alloc (.cells (evC x) 28)) := hJ pre wr _ none hJs (below_grown hz) (by simp)
      have hbox := ev_box wr x 28 _ (Below.refl _ _)
      obtain ⟨z, hz1, hz2⟩ : ∃ z : AtOf l, z.1.1 = k ∧ z.1.2 = x := ⟨⟨(k, x), hx⟩, rfl, rfl⟩
      obtain ⟨fn, tmps, assign, body, hy, hR⟩ := hY pre z _ hJ1 (by rw [hpl, ← Hm.out]; exact hlt)
      rw [hz1, hz2] at hy
      obtain ⟨x1, x2, x3⟩ := x
      unfold evC at hy hR hz hbox
      simp only [] at c0 c1 c2 hy hR hz hbox
      obtain ⟨q0, q1, q2⟩ := hbox
      clear hx hca hY hJ1 hz2
      gi_wp2
      refine hR.mono ?_
      rintro e W3 (⟨rfl, hJ3, hk3⟩ | ⟨rfl, hJx3⟩)
      · gi_wp2
        go_roundw
        case rel => exact ⟨pre ++ [z], k + 1, by go_num, by omega, by rw [places_snoc, Hpre.out, hz1, List.range_succ], (hbr.trans (hz.mono hbr.size)).trans hk3, hJ3⟩
        case measure => simp [intOf]; omega
      · gi_wp2
        refine bodyPost_ret (results_none rfl _ _ _) rfl ?_
        exact ⟨⟨_, rfl⟩, .inr ⟨pre ++ [z], trivial, hJx3⟩⟩
    · have hkm : k = l.length := by have := Hm.out; omega
      have i1 : ¬ (k : Int) < m := by omega
      have Hkm := Lib.hid hkm
      clear hkm
      gi_wp2
      go_end0
      exact ⟨⟨_, rfl⟩, .inl ⟨pre, by rw [Hpre.out, Hkm.out], hJs⟩⟩
theorem evAll_stops (n : Nat) (hn : 1 ≤ n) (B : Nat) (l : List Ev) (v : Value) (w : World) (hE : Evs w v l) (hB : Boxed w B 38 v) :
    SeqStopsK Fence.wide n Try.prog 55 #[.pointer (some ⟨B, 0, none⟩)] (fun x : AtOf l => #[Value.int .i64 ((x.1.1 : Nat) : Int), .agg (evC x.1.2)]) (Below w.heap.size)
      (fun xs => places xs = List.range l.length) (fun _ => True) l.length w := fun y J Jx W hW hJ _ hY h0 =>
  evAll_each n hn y B l v w W hW hE hB J Jx hJ hY h0
theorem row_ownE {β : Type} (g : Nat) (e : TypeId) (f : β → List Value) : Own (fun s W => Row W g e (f s)) := fun s X Y row hs hg hrow => by
  refine hs.grown hg fun e' => ?_
  obtain ⟨C, fr, hC, _⟩ := hs
  obtain ⟨o, ho, hc⟩ := hrow g e'.symm
  rw [hC] at ho; cases ho; cases hc
theorem keeps_below {B : Nat} {W W' : World} (h : Below W.heap.size W W') : KeepsFrom B W W' := ⟨h.size, fun i o _ hi _ => (h.block i (Array.getElem?_eq_some_iff.1 hi).1).trans hi⟩
theorem all_places {a b : List Ev} (hl : a.length = b.length) {xs : List (AtOf a)} (hx : places xs = List.range a.length) (h : ∀ x ∈ xs, b[x.1.1]? = some x.1.2) : a = b := by
  refine List.ext_getElem? fun i => ?_
  by_cases hi : i < a.length
  · have hm : i ∈ places xs := by rw [hx]; exact List.mem_range.2 hi
    obtain ⟨x, hxm, rfl⟩ := List.mem_map.1 hm
    rw [x.2, h x hxm]
  · rw [List.getElem?_eq_none (by omega), List.getElem?_eq_none (by omega)]

set_option maxRecDepth 100000 in
set_option maxHeartbeats 2000000 in
theorem events_All (va vb : Value) (a b : List Ev) (w : World) (ha : Evs w va a) (hb : Evs w vb b) :
    Calls Try.prog 23 #[va, vb] w fun e w' => e = .returned (.bool (decide (a = b))) ∧ Below w.heap.size w w' := by
  obtain ⟨⟨A, c, rfl, -, -, -, -⟩, -⟩ := id ha
  obtain ⟨⟨B, d, rfl, -, -, -, -⟩, -⟩ := id hb
  obtain ⟨-, ha1, ha2, -⟩ := Reads.each evL_len ha.1
  obtain ⟨-, hb1, hb2, -⟩ := Reads.each evL_len hb.1
  unfold maxLen at ha2 hb2
  by_cases hl : a.length = b.length
  · obtain ⟨n, hn⟩ : ∃ n, n = b.length := ⟨_, rfl⟩
    have hna : a.length = n := by omega
    have hB := fun h0 => hb.later h0
    have oB := hb.2
    rw [← hn] at hb1 hb
    rw [hna] at ha1 ha
    have Hn := Lib.hid hn
    have Hna := Lib.hid hna
    have HB := Lib.hid hB
    have OB := Lib.hid oB
    have Ha := Lib.hid ha
    have Hl := Lib.hid hl
    rw [← hn, hna]
    clear hn hna hB oB ha hb hl
    refine (callsIn_wide (n := 5)).1 ?_
    refine callsIn_of_wp_marks Try.func23 rfl trivial ?_ rfl
    simp only [Try.ntmps23, List.size_toArray, List.length_cons, List.length_nil, Nat.reduceAdd, Nat.reduceSub, Array.replicate_succ, Array.replicate_zero, List.push_toArray, List.append_toArray, List.nil_append, List.cons_append]
    gi_wp2_with fail
    refine ⟨trivial, ?_⟩
    refine (callsIn_wide.2 (evAll_make _ _ _ _)).mono ?_
    rintro e w1 ⟨rfl, rfl⟩
    gi_wp2_with fail
    obtain ⟨W0, hW0⟩ : ∃ W0, W0 = (((w.alloc (Obj.cells #[Value.slice B n d] 38)).alloc (Obj.cells #[Value.bool false] 4)).alloc (Obj.cells #[Value.slice A n c] 38)) := ⟨_, rfl⟩
    have b1 : Boxed W0 w.heap.size 38 (.slice B n d) := by rw [hW0]; exact ((Boxed.new w _ _).alloc _).alloc _
    have b2 : Boxed W0 (w.heap.size + 1) 4 (.bool false) := by
      rw [hW0]; have := Boxed.new (w.alloc (Obj.cells #[Value.slice B n d] 38)) 4 (.bool false); rw [World.size_alloc] at this; exact this.alloc _
    have b3 : Boxed W0 (w.heap.size + 1 + 1) 38 (.slice A n c) := by
      rw [hW0]; have := Boxed.new ((w.alloc (Obj.cells #[Value.slice B n d] 38)).alloc (Obj.cells #[Value.bool false] 4)) 38 (.slice A n c); rw [World.size_alloc, World.size_alloc] at this; exact this
    have hB0 : Below w.heap.size w W0 := by
      rw [hW0]; exact (((Below.refl _ w).alloc (Nat.le_refl _) _).alloc (by simp) _).alloc (by simp; omega) _
    have hsz : W0.heap.size = w.heap.size + 3 := by rw [hW0]; simp
    rw [← hW0]
    clear hW0
    refine wpIn_rangeFunc_ownH rfl (by omega) (gf := 55) (lb := #[.pointer (some ⟨w.heap.size + 1 + 1, 0, none⟩)]) rfl trivial (enters_of Try.func55 (by kernel_rfl) rfl)
      (evAll_stops _ (by omega) (w.heap.size + 1 + 1) a (.slice A n c) W0 ((Ha.out).next hB0) b3) belowK_t (belowK_b (Nat.le_refl _)) (Below.refl _ _) (fun _ => rfl)
      (fun pre W => Below W0.heap.size W0 W ∧ ∀ x ∈ pre, b[x.1.1]? = some x.1.2)
      (fun c pre W => (c = .ret ∧ ∃ x : AtOf a, b[x.1.1]? ≠ some x.1.2) ∧ Boxed W (w.heap.size + 1) 4 (.bool false) ∧ Below w.heap.size w W)
      ?own ?ownx ⟨Below.refl _ _, by simp⟩
      (fun x a' W => ∃ Bx, W0.heap.size ≤ Bx ∧ Row W Bx 28 (evL x.1.2) ∧ a' = { tmps := #[.slice A n c, .slice B n d, undef, .pointer (some ⟨w.heap.size, 0, none⟩), .pointer (some ⟨w.heap.size + 1, 0, none⟩), .int .i64 ((x.1.1 : Nat) : Int), .pointer (some ⟨Bx, 0, none⟩), .slice A n c, .int .i64 (n : Int), .slice B n d, .int .i64 (n : Int), .bool false, .slice A n c,
        .func (.func 55) #[] #[.pointer (some ⟨w.heap.size + 1 + 1, 0, none⟩)], .int .i64 ((x.1.1 : Nat) : Int), .agg (evC x.1.2), undef, undef, undef, undef, undef, undef, undef], defers := [] })
      ?ownA ?assign ?body ?done ?stop
    case own => exact OwnFrom.and (ownFrom_below (Nat.le_refl _) (Nat.le_refl _)) (ownFrom_pure _ _)
    case ownx => intro c; exact OwnFrom.and (ownFrom_pure _ _) (OwnFrom.and (Own.from (boxed_own _ _ _) _) (ownFrom_below (Nat.le_refl _) (by omega)))
    case ownA =>
      intro x a' s X Y row hs hg hr
      obtain ⟨Bx, h1, h2, h3⟩ := hs
      refine ⟨Bx, h1, ?_, h3⟩
      exact row_ownE (β := Unit) Bx _ (fun _ => evL x.1.2) () X Y row h2 hg (fun r e => (hr r e).2)
    case assign =>
      rintro l pre x W K ⟨h1, h2⟩ hK
      have hz := lit_below W (.cells (evC x.1.2) 28)
      have hrw := Row.new W (evC x.1.2) 28
      obtain ⟨⟨i, e1, e2, e3⟩, hx⟩ := x
      unfold evC at hz hrw
      dsimp only [evC] at hK hz hrw ⊢
      gi_wp2
      exact hK _ _ (keeps_below hz) (hz.mono h1.size) ⟨h1.trans (hz.mono h1.size), h2⟩ ⟨W.heap.size, h1.size, hrw, rfl⟩
    case body =>
      rintro l pre x a' W hl ⟨r, hr⟩ ⟨h1, h2⟩ ⟨Bx, hBx, hrow, rfl⟩ hlt
      obtain ⟨⟨i, e⟩, hx⟩ := x
      simp only [] at hx
      have hi : i < n := by have := (List.getElem?_eq_some_iff.1 hx).1; have := Hna.out; omega
      obtain ⟨y, hy⟩ : ∃ y, b[i]? = some y := ⟨_, List.getElem?_eq_getElem (by have := Hn.out; omega)⟩
      obtain ⟨bb, ob, rfl, -, hcb⟩ := HB.out (by have := Hn.out; omega)
      have hs := fun w => events_Same e y w (Ha.out.2 e (List.mem_of_getElem? hx)) (OB.out y (List.mem_of_getElem? hy))
      have hxy : e = y → ∀ z ∈ pre ++ [(⟨(i, e), hx⟩ : AtOf a)], b[z.1.1]? = some z.1.2 := fun h z hz => by
        rcases List.mem_append.1 hz with hz | hz
        · exact h2 z hz
        · rw [List.mem_singleton.1 hz]; simp only []; rw [hy, h]
      have hne : e ≠ y → ∃ x : AtOf a, b[x.1.1]? ≠ some x.1.2 := fun h => ⟨⟨(i, e), hx⟩, by simp only []; rw [hy]; intro h'; exact h (Option.some.inj h').symm⟩
      have hbw := fun z : Later W => (hB0.trans (h1.mono (by omega))).trans (z.ok.mono (by have := h1.size; omega))
      have hcq := fun z : Later W => hcb i y hy z.it (hbw z)
      have s0 : ∀ z : Later W, z.it.cell? ⟨w.heap.size, 0, none⟩ = some (.slice (some ⟨bb, ob, none⟩) n d) := fun z => Boxed.cell (((z.ok.block _ (by have := h1.size; omega)).trans ((h1.block _ (by omega)).trans b1)))
      have hcp := fun z : Later W => hrow.next z.ok
      have r2 : W.cell? ⟨w.heap.size + 1, 0, none⟩ = some (.bool false) := Boxed.cell ((h1.block _ (by omega)).trans b2)
      have f2 : W.frozen? ⟨w.heap.size + 1, 0, none⟩ = false := Boxed.frozen ((h1.block _ (by omega)).trans b2)
      obtain ⟨e1, e2, e3⟩ := e
      obtain ⟨y1, y2, y3⟩ := y
      have p0 := fun z => (hcp z).cell 0 (by simp [evL])
      have p1 := fun z => (hcp z).cell 1 (by simp [evL])
      have p2 := fun z => (hcp z).cell 2 (by simp [evL])
      unfold evC at hs
      simp only [evL, List.getElem_cons_zero, List.getElem_cons_succ] at p0 p1 p2 hcq hs
      have q0 := fun z => (hcq z).1
      have q1 := fun z => (hcq z).2.1
      have q2 := fun z => (hcq z).2.2
      have i1 : (i : Int) < n := by omega
      have Hxy := Lib.hid hxy
      have Hne := Lib.hid hne
      have Hx := Lib.hid hx
      have bR : Boxed W (w.heap.size + 1) 4 (.bool false) := (h1.block _ (by omega)).trans b2
      dsimp only [evC]
      have hgo := Hxy.out
      by_cases heq : ((e1, e2, e3) : Ev) = (y1, y2, y3)
      · rw [decide_eq_true heq] at hs
        have hgo' := hgo heq
        have Hgo := Lib.hid hgo'
        clear hgo hgo' heq hxy hne hcq hcp hbw hcb hy
        gi_wp2
        refine region_below_round l rfl (by kernel_rfl) (by kernel_rfl) (by kernel_rfl) ?_
        repeat (first | gi_big_quiet_skip | (gi_big_quiet_want; gi_big_quiet_op; go_big_quiet_on) | (refine BigFrame.wpQuietIn_want (fun _ _ _ _ => trivial) rfl ?_; intro K hK; gi_big_quiet_op; (apply Exists.intro; refine ⟨fun x => ?_, ?_⟩; (first | exact callsIn_wide.2 (calls_below x (hs _)) | exact ⟨fun _ => by omega, callsIn_wide.2 (calls_below x (hs _))⟩ | exact ⟨trivial, callsIn_wide.2 (calls_below x (hs _))⟩); go_big_quiet_on)))
        refine wpQuietIn_nil ?_
        rintro _ ⟨z, rfl⟩
        gi_wp2
        exact ⟨keeps_below z.ok, z.ok.mono h1.size, h1.trans (z.ok.mono h1.size), Hgo.out⟩
      · rw [decide_eq_false heq] at hs
        have hno := hne heq
        have Hno := Lib.hid hno
        clear hgo hno heq hxy hne hcq hcp hbw hcb hy
        gi_wp2
        refine region_below_round l rfl (by kernel_rfl) (by kernel_rfl) (by kernel_rfl) ?_
        repeat (first | gi_big_quiet_skip | (gi_big_quiet_want; gi_big_quiet_op; go_big_quiet_on) | (refine BigFrame.wpQuietIn_want (fun _ _ _ _ => trivial) rfl ?_; intro K hK; gi_big_quiet_op; (apply Exists.intro; refine ⟨fun x => ?_, ?_⟩; (first | exact callsIn_wide.2 (calls_below x (hs _)) | exact ⟨fun _ => by omega, callsIn_wide.2 (calls_below x (hs _))⟩ | exact ⟨trivial, callsIn_wide.2 (calls_below x (hs _))⟩); go_big_quiet_on)))
        refine wpQuietIn_nil ?_
        rintro _ ⟨z, rfl⟩
        have bZ : Boxed z.it (w.heap.size + 1) 4 (.bool false) := (z.ok.block _ (by have := h1.size; omega)).trans bR
        have hZ : Below w.heap.size w z.it := (hB0.trans (h1.mono (by omega))).trans (z.ok.mono (by have := h1.size; omega))
        have hkz := keeps_below (B := W0.heap.size) z.ok
        generalize z.it = Z at bZ hZ hkz ⊢
        have cZ := bZ.cell
        have fZ := bZ.frozen
        gi_wp2
        refine ⟨hkz.trans ((KeepsOthers.setCell Z _ _).from _), ⟨rfl, Hno.out⟩, bZ.set (.bool false), hZ.setCell (p := ⟨w.heap.size + 1, 0, none⟩) (by show w.heap.size ≤ w.heap.size + 1; omega) _⟩
    case done =>
      rintro D xs W hD hS ⟨h1, h2⟩ hK
      have bW : Boxed W (w.heap.size + 1) 4 (.bool false) := (h1.block _ (by omega)).trans b2
      have c2 := bW.cell
      have f2 := bW.frozen
      have hT : decide (a = b) = true := decide_eq_true (all_places Hl.out hS h2)
      have HT := Lib.hid hT
      have h3 : Below w.heap.size w W := hB0.trans (h1.mono (by omega))
      have hK2 : (W.setCell ⟨w.heap.size + 1, 0, none⟩ (.bool true)).heap[D]? = some (.deferred (some [])) := (KeepsOthers.setCell W ⟨w.heap.size + 1, 0, none⟩ (.bool true)).same D _ hK rfl
      have hb2 := bW.set (.bool true)
      have hB2 : Below w.heap.size w (W.setCell ⟨w.heap.size + 1, 0, none⟩ (.bool true)) := h3.setCell (p := ⟨w.heap.size + 1, 0, none⟩) (by show w.heap.size ≤ w.heap.size + 1; omega) _
      have HK2 := Lib.hid hK2
      have Hb2 := Lib.hid hb2
      have HB2 := Lib.hid hB2
      clear hT hK hK2 hb2 hB2 hS h2
      gi_wp2
      have q0 : ∀ o, ((W.setCell ⟨w.heap.size + 1, 0, none⟩ (.bool true)).putObj D o).cell? ⟨w.heap.size + 1, 0, none⟩ = some (.bool true) := fun o => (World.cell?_of_block (World.putObj_heap_other (by show w.heap.size + 1 ≠ D; omega))).trans Hb2.out.cell
      refine ⟨by simp, .inl ⟨_, _, rfl, run_takeDeferred HK2.out, ?_⟩⟩
      refine ⟨.bool true, by simp [results, Try.results23, go_sem, q0], ret_bool HT.out.symm, ?_⟩
      exact HB2.out.trans (belowK_b (w := w) (Nat.le_refl _) _ D _ _ (by omega) HK2.out rfl rfl)
    case stop =>
      rintro D c pre W hD - ⟨⟨rfl, x, hx⟩, h2, h3⟩ hK
      have c2 := h2.cell
      have hF : decide (a = b) = false := decide_eq_false fun h => hx (by rw [← h]; exact x.2)
      have HF := Lib.hid hF
      have HK := Lib.hid hK
      clear hF hK hx
      gi_wp2
      have q0 : ∀ o, (W.putObj D o).cell? ⟨w.heap.size + 1, 0, none⟩ = some (.bool false) := fun o => (World.cell?_of_block (World.putObj_heap_other (by show w.heap.size + 1 ≠ D; omega))).trans h2.cell
      refine ⟨by simp, .inl ⟨_, _, rfl, run_takeDeferred HK.out, ?_⟩⟩
      refine ⟨.bool false, by simp [results, Try.results23, go_sem, q0], ret_bool HF.out.symm, ?_⟩
      exact h3.trans (belowK_b (w := w) (Nat.le_refl _) _ D _ _ (by omega) HK.out rfl rfl)
  · have hab : decide (a = b) = false := decide_eq_false fun h => hl (by rw [h])
    have h' : ¬ (a.length : Int) = b.length := by omega
    have h2 : ((a.length : Int) == b.length) = false := by rw [beq_eq_false_iff_ne]; exact h'
    rw [hab]
    go_enter Try.func23, Try.ntmps23
    go_wp2
    refine bodyPost_ret (v := .bool false) (by simp [results, Try.results23, go_sem]) rfl ⟨rfl, lit2_below' w _ _⟩
end Go.Proofs.Ytiojapjidgjaoaa
