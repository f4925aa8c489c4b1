/-
  Rows.MemtablePartsSaid: the entries of a hash in two ranges of versions, one behind the other, are those of both; the last one up to a version is the end of all up to there.
-/
import Derived.Test.YtikodobglhjoiaaOpenEnt
import Derived.Test.YtikodobglhjoiaaOpenArr
import Derived.Test.YtikodobglhjoiaaTabOf
namespace Go.Proofs.Ytikodobglhjoiaa
open Go.RowKit Go.ChangeShapes Go.WideShapes
set_option linter.unusedVariables false

def Tri (v : Value) (p : Int × Int × Int) : Prop := v = .agg #[.int .i64 p.1, .int .i64 p.2.1, .int .i64 p.2.2] ∧ (-9223372036854775808 ≤ p.1 ∧ p.1 ≤ 9223372036854775807) ∧ (-9223372036854775808 ≤ p.2.1 ∧ p.2.1 ≤ 9223372036854775807) ∧ (-9223372036854775808 ≤ p.2.2 ∧ p.2.2 ≤ 9223372036854775807)
theorem cells_3int : Try.prog.cellsOf 62 = 3 := by kernel_rfl
theorem open_3int {H : Type} {enc : TypeId × Value → H} {W : World} {base : Nat} {v : Value} {d : DataW H} {p : List MemPlace} (hval : Value.okWide Try.prog W .any base 62 v) (h : DataW.Trod enc Try.prog W 0 (fun _ => true) true 62 v d p) :
    ∃ a, Tri v a := by
  obtain ⟨l, h1, h2, h3⟩ := open_arr Try.underlying62 cells_inte cells_3int (fun z : Int => Value.int .i64 z) (fun z => -9223372036854775808 ≤ z ∧ z ≤ 9223372036854775807) (fun m c y h => by
    obtain ⟨x, e, -, hw⟩ := DataW.trod_int Try.underlying3 h
    simp at e
    exact ⟨x, bounds_i64 hw, e⟩) hval h
  obtain ⟨a, b, c, rfl⟩ := list3 l h2
  exact ⟨(a, b, c), h1, h3 a (by simp), h3 b (by simp), h3 c (by simp)⟩
/-- The least and the greatest of three. -/
structure Ord (q0 q1 q2 ia ic : Int) : Prop where
  p0 : ia ≤ q0 ∧ q0 ≤ ic
  p1 : ia ≤ q1 ∧ q1 ≤ ic
  p2 : ia ≤ q2 ∧ q2 ≤ ic
  ba : -9223372036854775808 ≤ ia ∧ ia ≤ 9223372036854775807
  bc : -9223372036854775808 ≤ ic ∧ ic ≤ 9223372036854775807
theorem Ord.mk' {p0 p1 p2 : Int} (b0 : -9223372036854775808 ≤ p0 ∧ p0 ≤ 9223372036854775807) (b1 : -9223372036854775808 ≤ p1 ∧ p1 ≤ 9223372036854775807) (b2 : -9223372036854775808 ≤ p2 ∧ p2 ≤ 9223372036854775807) :
    Ord p0 p1 p2 (if p2 < if p1 < p0 then p1 else p0 then p2 else if p1 < p0 then p1 else p0) (if (if p0 < p1 then p1 else p0) < p2 then p2 else if p0 < p1 then p1 else p0) := by
  refine ⟨⟨?_, ?_⟩, ⟨?_, ?_⟩, ⟨?_, ?_⟩, ⟨?_, ?_⟩, ⟨?_, ?_⟩⟩ <;> (repeat' split) <;> omega
theorem range_split' {L : List Ent} (hs : sortedE L = true) (h : Nat) {a b c : Int} (hab : a ≤ b) (hbc : b ≤ c) : rangeE L h a c = rangeE L h a b ++ rangeE L h (b + 1) c := by
  have hs' := of_decide_eq_true hs
  refine sorted_ext (decide_eq_true (hs'.sublist List.filter_sublist)) (decide_eq_true ?_) fun x => ?_
  · rw [List.pairwise_append]
    refine ⟨hs'.sublist List.filter_sublist, hs'.sublist List.filter_sublist, fun x hx y hy => ?_⟩
    have h1 := of_decide_eq_true (List.mem_filter.1 hx).2
    have h2 := of_decide_eq_true (List.mem_filter.1 hy).2
    rw [lessE_iff]; omega
  · unfold rangeE
    simp only [List.mem_append, List.mem_filter, inE, decide_eq_true_eq]
    constructor
    · rintro ⟨h1, h2⟩
      by_cases h3 : x.2.1 ≤ b
      · exact .inl ⟨h1, by omega⟩
      · exact .inr ⟨h1, by omega⟩
    · rintro (⟨h1, h2⟩ | ⟨h1, h2⟩)
      · exact ⟨h1, by omega⟩
      · exact ⟨h1, by omega⟩
theorem range_upto {L : List Ent} (hok : ∀ e ∈ L, okE e) (h : Nat) (c : Int) : rangeE L h (-9223372036854775808) c = L.filter (uptoE h c) := by
  unfold rangeE
  refine List.filter_congr fun x hx => ?_
  have := (hok x hx).2.1
  unfold inE uptoE
  rw [decide_eq_decide]
  omega

set_option maxRecDepth 100000 in
set_option maxHeartbeats 4000000 in
theorem MemtableParts_walk (v0 : Value) (l : List Ent) (hsh : Int) (v2 : Value) (p : Int × Int × Int) (w : World) (hl : Ents w v0 l) (hh : 0 ≤ hsh ∧ hsh ≤ 18446744073709551615) (h2 : Tri v2 p) :
    Calls Try.prog 10 #[v0, .int .u64 hsh, v2] w fun e w' => e = .returned (.bool true) ∧ Below w.heap.size w w' := by
  obtain ⟨x, rfl⟩ := Int.eq_ofNat_of_zero_le hh.1
  have hx : x < 18446744073709551616 := by have := hh.2; omega
  clear hh
  obtain ⟨p0, p1, p2⟩ := p
  obtain ⟨rfl, b0, b1, b2⟩ := h2
  simp only [] at b0 b1 b2 ⊢
  obtain ⟨⟨A, c, rfl, -, -, -, -⟩, -⟩ := id hl
  obtain ⟨-, hc1, hc2, -⟩ := hl.cells
  unfold maxLen at hc2
  have hz := below_lit w (.cells #[.int .i64 p0, .int .i64 p1, .int .i64 p2] 62)
  have hrow : Row (w.alloc (.cells #[.int .i64 p0, .int .i64 p1, .int .i64 p2] 62)) w.heap.size 62 [.int .i64 p0, .int .i64 p1, .int .i64 p2] := Row.new w #[.int .i64 p0, .int .i64 p1, .int .i64 p2] 62
  have hl0 := hl.next hz
  by_cases hlen : l.length ≤ 80
  · have i1 : ¬ (80 : Int) < l.length := by omega
    have hok : ∀ e ∈ sortE l, okE e := fun e he => hl.2 e (mem_sortE.1 he)
    have hLs := sortE_sorted l
    have hLl := sortE_length l
    go_enter Try.func10, Try.ntmps10
    go_wp2_with fail
    refine (law_table _ l _ hl0 (by omega)).mono ?_
    rintro e w1 ⟨g, rfl, ⟨vt, hT⟩, hg, hb1⟩
    generalize sortE l = L at hT hok hLs hLl
    have hrow1 := hrow.next hb1
    have c0 := hrow1.cell 0 (by simp)
    have c1 := hrow1.cell 1 (by simp)
    have c2 := hrow1.cell 2 (by simp)
    simp only [List.getElem_cons_zero, List.getElem_cons_succ] at c0 c1 c2
    have HT := Lib.hid hT
    have Hok := Lib.hid hok
    have HLs := Lib.hid hLs
    clear hT hok hLs hrow hrow1 hl hl0
    go_wp2_with fail
    go_quiet (fail)
    obtain ⟨i0, hi0, hz0, hz1, hz2⟩ := info_parts infoEnt
    have hord : Ord p0 p1 p2 (if p2 < if p1 < p0 then p1 else p0 then p2 else if p1 < p0 then p1 else p0) (if (if p0 < p1 then p1 else p0) < p2 then p2 else if p0 < p1 then p1 else p0) := Ord.mk' b0 b1 b2
    generalize (if p2 < if p1 < p0 then p1 else p0 then p2 else if p1 < p0 then p1 else p0) = ia at hord ⊢
    generalize (if (if p0 < p1 then p1 else p0) < p2 then p2 else if p0 < p1 then p1 else p0) = ic at hord ⊢
    have Hord := Lib.hid hord
    have hw1 : Below (w.alloc (.cells #[.int .i64 p0, .int .i64 p1, .int .i64 p2] 62)).heap.size (w.alloc (.cells #[.int .i64 p0, .int .i64 p1, .int .i64 p2] 62)) (w1.drewN nq) := below_drewN hb1 _
    clear hord b0 b1 b2
    by_cases d1 : p0 = ia
    · have d1' : (p0 == ia) = true := by simp [d1]
      clear d1
      have d1 := d1'
      clear d1'
      by_cases d2 : p1 = ic
      · have d2' : (p1 == ic) = true := by simp [d2]
        clear d2
        have d2 := d2'
        clear d2'
        have hE := Hord.out.p2
        have n1 : ¬ p2 < ia := by omega
        have n2 : ¬ ic < p2 := by omega
        have HE := Lib.hid hE
        clear hE
        by_cases hb : 4611686018427387904 < p2
        · go_wp2_with fail
          refine (law_kept _).mono ?_
          rintro e w2 ⟨rfl, hb2⟩
          go_wp2
          go_ret
          exact ⟨rfl, below_chain hz (below_chain hw1 hb2)⟩
        · have HB := Lib.hid hb
          go_wp2_with fail
          clear hb d1 d2 n1 n2
          have hT1 := HT.out.next (show Below w1.heap.size w1 (w1.drewN nq) from below_drewN (Below.refl _ _) _)
          refine (tab_Range hT1 (by omega) x ia ic hx Hord.out.ba Hord.out.bc).mono ?_
          rintro e w2 ⟨vw, rfl, how, hb2⟩
          have hT2 := hT1.next hb2
          have hw2 := below_chain hw1 hb2
          have eW : Ents w2 vw (rangeE L x ia ic) := ⟨Reads.of_own how, fun e he => Hok.out e (List.mem_filter.1 he).1⟩
          go_wp2_with fail
          refine (tab_Range hT2 (by omega) x ia p2 hx Hord.out.ba (by have := Hord.out.bc; have := Hord.out.ba; have := HE.out; omega)).mono ?_
          rintro e w3 ⟨v3, rfl, ho3, hb3⟩
          have hT3 := hT2.next hb3
          have hw3 := below_chain hw2 hb3
          have wib : IntKind.i64.wrap (p2 + 1) = p2 + 1 := by rw [IntKind.wrap_i64]; have := HB.out; have := Hord.out.bc; have := Hord.out.ba; have := HE.out; omega
          go_wp2_with fail
          refine (tab_Range hT3 (by omega) x (p2 + 1) ic hx (by have := HB.out; have := Hord.out.bc; have := Hord.out.ba; have := HE.out; omega) Hord.out.bc).mono ?_
          rintro e w4 ⟨v4, rfl, ho4, hb4⟩
          have hT4 := hT3.next hb4
          have hw4 := below_chain hw3 hb4
          have ho3' := own_next ho3 hb4
          have hr4 := Reads.of_own ho4
          have l3 := rangeE_length L x ia p2
          have l4 := rangeE_length L x (p2 + 1) ic
          have hs4 := hb4.size
          have hs3 := hb3.size
          go_wp2_with (first
            | (at_builtin; refine wpList_append_reads _ rfl _ _ 22 rfl w2.heap.size 25 i0 _ 3 24 Try.underlying22 hi0 hz0 hz1 hz2 rfl (by decide) _ _ _ rfl ho3' _ _ _ rfl hr4 (entsC_one _) (by unfold maxLen; omega) (by omega) (by omega) ?_; intro vp w5 ho5 hg5))
          have hb25 : Below w2.heap.size w2 w5 := (below_chain hb3 hb4).grown hg5 (by omega) (own_block_ge ho3')
          have hT5 := hT2.next hb25
          have hw5 := below_chain hw2 hb25
          have eP : Ents w5 vp (rangeE L x ia ic) := by
            rw [range_split' HLs.out x HE.out.1 HE.out.2]
            refine ⟨?_, fun e he => ?_⟩
            · rw [entsC_append, List.length_append]
              exact Reads.of_own ho5
            · rcases List.mem_append.1 he with h | h
              · exact Hok.out e (List.mem_filter.1 h).1
              · exact Hok.out e (List.mem_filter.1 h).1
          have eW5 := eW.next hb25
          refine (tab_Range hT5 (by omega) x (-9223372036854775808) ic hx (by omega) Hord.out.bc).mono ?_
          rintro e w6 ⟨v6, rfl, ho6, hb6⟩
          have hT6 := hT5.next hb6
          have hw6 := below_chain hw5 hb6
          have eU : Ents w6 v6 (L.filter (uptoE x ic)) := by
            rw [range_upto Hok.out] at ho6
            exact ⟨Reads.of_own ho6, fun e he => Hok.out e (List.mem_filter.1 he).1⟩
          have cL := tab_Last hT6 x ic hx Hord.out.bc
          have hlast : lastE L x ic = (L.filter (uptoE x ic)).getLast? := rfl
          generalize hUdef : L.filter (uptoE x ic) = U at eU hlast
          rw [hlast] at cL
          have eP6 := eP.next hb6
          have eW6 := eW5.next hb6
          generalize rangeE L x ia ic = R at eP6 eW6
          clear ho6 ho5 ho4 ho3 ho3' hr4 eP eW eW5 how l3 l4 hg5 hT1 hT2 hT3 hT4 hT5
          rcases hU : U.getLast? with _ | ⟨z1, z2, z3⟩
          · have hU0 : U = [] := List.getLast?_eq_none_iff.1 hU
            subst hU0
            obtain ⟨⟨AU, cU, rfl, -, -, -, -⟩, -⟩ := id eU
            have cL0 : Calls Try.prog 37 #[.pointer (some ⟨g, 0, none⟩), .int .u64 x, .int .i64 ic] w6 fun e w' => e = .returned (.tuple #[.agg #[.int .u64 0, .int .i64 0, .int .i64 0], .bool false]) ∧ Below w6.heap.size w6 w' := cL
            clear cL
            go_wp2_with fail
            refine cL0.mono ?_
            rintro e w7 ⟨rfl, hb7⟩
            go_wp2_with fail
            have k7 := below_chain hb7 (below_lit w7 (.cells #[.int .u64 0, .int .i64 0, .int .i64 0] 25))
            have eP7 := eP6.next k7
            have eW7 := eW6.next k7
            have hw7 := below_chain hw6 k7
            refine wp_region_below (by kernel_rfl) (by kernel_rfl) ?_
            repeat (first | go_big_quiet_skip | (go_big_quiet_want; go_big_quiet_op; go_big_quiet_on) | (go_big_quiet_want; go_big_quiet_op; apply Exists.intro; refine ⟨fun x => ?_, ?_⟩; (first | (go_at_call 21; exact calls_below x (ex_Same _ _ _ R R true (eW7.next x.ok) (eP7.next x.ok) (by simp))) | (go_at_call 25; exact calls_below x (law_kept _))); go_big_quiet_on))
            refine wpQuiet_nil ?_
            intro _ hx
            obtain ⟨⟨w8, hb8⟩, rfl⟩ := hx
            go_wp2
            go_ret
            exact ⟨rfl, below_chain hz (below_chain hw7 hb8)⟩
          · have hq : U[U.length - 1]? = some (z1, z2, z3) := by rw [← List.getLast?_eq_getElem?]; exact hU
            have hpos : 0 < U.length := by
              rcases Nat.eq_zero_or_pos U.length with h | h
              · rw [List.eq_nil_of_length_eq_zero h] at hU; cases hU
              · exact h
            have cL0 : Calls Try.prog 37 #[.pointer (some ⟨g, 0, none⟩), .int .u64 x, .int .i64 ic] w6 fun e w' => e = .returned (.tuple #[.agg #[.int .u64 (z1 : Nat), .int .i64 z2, .int .i64 z3], .bool true]) ∧ Below w6.heap.size w6 w' := by rw [hU] at cL; exact cL
            clear cL
            obtain ⟨⟨AU, cU, rfl, -, -, -, -⟩, -⟩ := id eU
            obtain ⟨b6, off6, rfl, -, hc6⟩ := eU.later hpos
            have hc7 := hc6 _ _ hq
            obtain ⟨q, hqN⟩ : ∃ q, U.length = q + 1 := ⟨U.length - 1, by omega⟩
            have e1 : U.length - 1 = q := by omega
            have hN6 : U.length ≤ 1000000 := by
              have := eU.cells.1
              have h1 := List.length_filter_le (uptoE x ic) L
              have h2 := congrArg List.length hUdef
              omega
            rw [e1] at hc7
            generalize U.length = N at hqN hN6 ⊢
            have iq : (q : Int) < N := by omega
            have i0N : (0 : Int) < N := by omega
            have i0N2 : 0 < N := by omega
            have wq : IntKind.i64.wrap ((N : Int) - 1) = (q : Int) := by rw [IntKind.wrap_i64]; omega
            have Hc7 := Lib.hid hc7
            clear hc7 hc6 hq hqN hpos e1 hU eU hlast hUdef
            go_wp2_with fail
            refine cL0.mono ?_
            rintro e w7 ⟨rfl, hb7⟩
            go_wp2_with fail
            have k7 := below_chain hb7 (below_lit w7 (.cells #[.int .u64 (z1 : Nat), .int .i64 z2, .int .i64 z3] 25))
            have eP7 := eP6.next k7
            have eW7 := eW6.next k7
            have hw7 := below_chain hw6 k7
            have u0 := fun y : Later (w7.alloc (.cells #[.int .u64 (z1 : Nat), .int .i64 z2, .int .i64 z3] 25)) => (Hc7.out y.it (below_chain k7 y.ok)).1
            have u1 := fun y : Later (w7.alloc (.cells #[.int .u64 (z1 : Nat), .int .i64 z2, .int .i64 z3] 25)) => (Hc7.out y.it (below_chain k7 y.ok)).2.1
            have u2 := fun y : Later (w7.alloc (.cells #[.int .u64 (z1 : Nat), .int .i64 z2, .int .i64 z3] 25)) => (Hc7.out y.it (below_chain k7 y.ok)).2.2
            have t0 := fun y : Later (w7.alloc (.cells #[.int .u64 (z1 : Nat), .int .i64 z2, .int .i64 z3] 25)) => (ent_box w7 (z1, z2, z3) 25 y.it y.ok).1
            have t1 := fun y : Later (w7.alloc (.cells #[.int .u64 (z1 : Nat), .int .i64 z2, .int .i64 z3] 25)) => (ent_box w7 (z1, z2, z3) 25 y.it y.ok).2.1
            have t2 := fun y : Later (w7.alloc (.cells #[.int .u64 (z1 : Nat), .int .i64 z2, .int .i64 z3] 25)) => (ent_box w7 (z1, z2, z3) 25 y.it y.ok).2.2
            refine wp_region_below (by kernel_rfl) (by kernel_rfl) ?_
            repeat (first | go_big_quiet_skip | (go_big_quiet_want; go_big_quiet_op; go_big_quiet_on) | (go_big_quiet_want; go_big_quiet_op; apply Exists.intro; refine ⟨fun x => ?_, ?_⟩; (first | (go_at_call 21; exact calls_below x (ex_Same _ _ _ R R true (eW7.next x.ok) (eP7.next x.ok) (by simp))) | (go_at_call 25; exact calls_below x (law_kept _))); go_big_quiet_on))
            refine wpQuiet_nil ?_
            intro _ hx
            obtain ⟨⟨w8, hb8⟩, rfl⟩ := hx
            go_wp2
            go_ret
            exact ⟨rfl, below_chain hz (below_chain hw7 hb8)⟩
      · have d2' : (p1 == ic) = false := by simp [d2]
        clear d2
        have d2 := d2'
        clear d2'
        have hE := Hord.out.p1
        have n1 : ¬ p1 < ia := by omega
        have n2 : ¬ ic < p1 := by omega
        have HE := Lib.hid hE
        clear hE
        by_cases hb : 4611686018427387904 < p1
        · go_wp2_with fail
          refine (law_kept _).mono ?_
          rintro e w2 ⟨rfl, hb2⟩
          go_wp2
          go_ret
          exact ⟨rfl, below_chain hz (below_chain hw1 hb2)⟩
        · have HB := Lib.hid hb
          go_wp2_with fail
          clear hb d1 d2 n1 n2
          have hT1 := HT.out.next (show Below w1.heap.size w1 (w1.drewN nq) from below_drewN (Below.refl _ _) _)
          refine (tab_Range hT1 (by omega) x ia ic hx Hord.out.ba Hord.out.bc).mono ?_
          rintro e w2 ⟨vw, rfl, how, hb2⟩
          have hT2 := hT1.next hb2
          have hw2 := below_chain hw1 hb2
          have eW : Ents w2 vw (rangeE L x ia ic) := ⟨Reads.of_own how, fun e he => Hok.out e (List.mem_filter.1 he).1⟩
          go_wp2_with fail
          refine (tab_Range hT2 (by omega) x ia p1 hx Hord.out.ba (by have := Hord.out.bc; have := Hord.out.ba; have := HE.out; omega)).mono ?_
          rintro e w3 ⟨v3, rfl, ho3, hb3⟩
          have hT3 := hT2.next hb3
          have hw3 := below_chain hw2 hb3
          have wib : IntKind.i64.wrap (p1 + 1) = p1 + 1 := by rw [IntKind.wrap_i64]; have := HB.out; have := Hord.out.bc; have := Hord.out.ba; have := HE.out; omega
          go_wp2_with fail
          refine (tab_Range hT3 (by omega) x (p1 + 1) ic hx (by have := HB.out; have := Hord.out.bc; have := Hord.out.ba; have := HE.out; omega) Hord.out.bc).mono ?_
          rintro e w4 ⟨v4, rfl, ho4, hb4⟩
          have hT4 := hT3.next hb4
          have hw4 := below_chain hw3 hb4
          have ho3' := own_next ho3 hb4
          have hr4 := Reads.of_own ho4
          have l3 := rangeE_length L x ia p1
          have l4 := rangeE_length L x (p1 + 1) ic
          have hs4 := hb4.size
          have hs3 := hb3.size
          go_wp2_with (first
            | (at_builtin; refine wpList_append_reads _ rfl _ _ 22 rfl w2.heap.size 25 i0 _ 3 24 Try.underlying22 hi0 hz0 hz1 hz2 rfl (by decide) _ _ _ rfl ho3' _ _ _ rfl hr4 (entsC_one _) (by unfold maxLen; omega) (by omega) (by omega) ?_; intro vp w5 ho5 hg5))
          have hb25 : Below w2.heap.size w2 w5 := (below_chain hb3 hb4).grown hg5 (by omega) (own_block_ge ho3')
          have hT5 := hT2.next hb25
          have hw5 := below_chain hw2 hb25
          have eP : Ents w5 vp (rangeE L x ia ic) := by
            rw [range_split' HLs.out x HE.out.1 HE.out.2]
            refine ⟨?_, fun e he => ?_⟩
            · rw [entsC_append, List.length_append]
              exact Reads.of_own ho5
            · rcases List.mem_append.1 he with h | h
              · exact Hok.out e (List.mem_filter.1 h).1
              · exact Hok.out e (List.mem_filter.1 h).1
          have eW5 := eW.next hb25
          refine (tab_Range hT5 (by omega) x (-9223372036854775808) ic hx (by omega) Hord.out.bc).mono ?_
          rintro e w6 ⟨v6, rfl, ho6, hb6⟩
          have hT6 := hT5.next hb6
          have hw6 := below_chain hw5 hb6
          have eU : Ents w6 v6 (L.filter (uptoE x ic)) := by
            rw [range_upto Hok.out] at ho6
            exact ⟨Reads.of_own ho6, fun e he => Hok.out e (List.mem_filter.1 he).1⟩
          have cL := tab_Last hT6 x ic hx Hord.out.bc
          have hlast : lastE L x ic = (L.filter (uptoE x ic)).getLast? := rfl
          generalize hUdef : L.filter (uptoE x ic) = U at eU hlast
          rw [hlast] at cL
          have eP6 := eP.next hb6
          have eW6 := eW5.next hb6
          generalize rangeE L x ia ic = R at eP6 eW6
          clear ho6 ho5 ho4 ho3 ho3' hr4 eP eW eW5 how l3 l4 hg5 hT1 hT2 hT3 hT4 hT5
          rcases hU : U.getLast? with _ | ⟨z1, z2, z3⟩
          · have hU0 : U = [] := List.getLast?_eq_none_iff.1 hU
            subst hU0
            obtain ⟨⟨AU, cU, rfl, -, -, -, -⟩, -⟩ := id eU
            have cL0 : Calls Try.prog 37 #[.pointer (some ⟨g, 0, none⟩), .int .u64 x, .int .i64 ic] w6 fun e w' => e = .returned (.tuple #[.agg #[.int .u64 0, .int .i64 0, .int .i64 0], .bool false]) ∧ Below w6.heap.size w6 w' := cL
            clear cL
            go_wp2_with fail
            refine cL0.mono ?_
            rintro e w7 ⟨rfl, hb7⟩
            go_wp2_with fail
            have k7 := below_chain hb7 (below_lit w7 (.cells #[.int .u64 0, .int .i64 0, .int .i64 0] 25))
            have eP7 := eP6.next k7
            have eW7 := eW6.next k7
            have hw7 := below_chain hw6 k7
            refine wp_region_below (by kernel_rfl) (by kernel_rfl) ?_
            repeat (first | go_big_quiet_skip | (go_big_quiet_want; go_big_quiet_op; go_big_quiet_on) | (go_big_quiet_want; go_big_quiet_op; apply Exists.intro; refine ⟨fun x => ?_, ?_⟩; (first | (go_at_call 21; exact calls_below x (ex_Same _ _ _ R R true (eW7.next x.ok) (eP7.next x.ok) (by simp))) | (go_at_call 25; exact calls_below x (law_kept _))); go_big_quiet_on))
            refine wpQuiet_nil ?_
            intro _ hx
            obtain ⟨⟨w8, hb8⟩, rfl⟩ := hx
            go_wp2
            go_ret
            exact ⟨rfl, below_chain hz (below_chain hw7 hb8)⟩
          · have hq : U[U.length - 1]? = some (z1, z2, z3) := by rw [← List.getLast?_eq_getElem?]; exact hU
            have hpos : 0 < U.length := by
              rcases Nat.eq_zero_or_pos U.length with h | h
              · rw [List.eq_nil_of_length_eq_zero h] at hU; cases hU
              · exact h
            have cL0 : Calls Try.prog 37 #[.pointer (some ⟨g, 0, none⟩), .int .u64 x, .int .i64 ic] w6 fun e w' => e = .returned (.tuple #[.agg #[.int .u64 (z1 : Nat), .int .i64 z2, .int .i64 z3], .bool true]) ∧ Below w6.heap.size w6 w' := by rw [hU] at cL; exact cL
            clear cL
            obtain ⟨⟨AU, cU, rfl, -, -, -, -⟩, -⟩ := id eU
            obtain ⟨b6, off6, rfl, -, hc6⟩ := eU.later hpos
            have hc7 := hc6 _ _ hq
            obtain ⟨q, hqN⟩ : ∃ q, U.length = q + 1 := ⟨U.length - 1, by omega⟩
            have e1 : U.length - 1 = q := by omega
            have hN6 : U.length ≤ 1000000 := by
              have := eU.cells.1
              have h1 := List.length_filter_le (uptoE x ic) L
              have h2 := congrArg List.length hUdef
              omega
            rw [e1] at hc7
            generalize U.length = N at hqN hN6 ⊢
            have iq : (q : Int) < N := by omega
            have i0N : (0 : Int) < N := by omega
            have i0N2 : 0 < N := by omega
            have wq : IntKind.i64.wrap ((N : Int) - 1) = (q : Int) := by rw [IntKind.wrap_i64]; omega
            have Hc7 := Lib.hid hc7
            clear hc7 hc6 hq hqN hpos e1 hU eU hlast hUdef
            go_wp2_with fail
            refine cL0.mono ?_
            rintro e w7 ⟨rfl, hb7⟩
            go_wp2_with fail
            have k7 := below_chain hb7 (below_lit w7 (.cells #[.int .u64 (z1 : Nat), .int .i64 z2, .int .i64 z3] 25))
            have eP7 := eP6.next k7
            have eW7 := eW6.next k7
            have hw7 := below_chain hw6 k7
            have u0 := fun y : Later (w7.alloc (.cells #[.int .u64 (z1 : Nat), .int .i64 z2, .int .i64 z3] 25)) => (Hc7.out y.it (below_chain k7 y.ok)).1
            have u1 := fun y : Later (w7.alloc (.cells #[.int .u64 (z1 : Nat), .int .i64 z2, .int .i64 z3] 25)) => (Hc7.out y.it (below_chain k7 y.ok)).2.1
            have u2 := fun y : Later (w7.alloc (.cells #[.int .u64 (z1 : Nat), .int .i64 z2, .int .i64 z3] 25)) => (Hc7.out y.it (below_chain k7 y.ok)).2.2
            have t0 := fun y : Later (w7.alloc (.cells #[.int .u64 (z1 : Nat), .int .i64 z2, .int .i64 z3] 25)) => (ent_box w7 (z1, z2, z3) 25 y.it y.ok).1
            have t1 := fun y : Later (w7.alloc (.cells #[.int .u64 (z1 : Nat), .int .i64 z2, .int .i64 z3] 25)) => (ent_box w7 (z1, z2, z3) 25 y.it y.ok).2.1
            have t2 := fun y : Later (w7.alloc (.cells #[.int .u64 (z1 : Nat), .int .i64 z2, .int .i64 z3] 25)) => (ent_box w7 (z1, z2, z3) 25 y.it y.ok).2.2
            refine wp_region_below (by kernel_rfl) (by kernel_rfl) ?_
            repeat (first | go_big_quiet_skip | (go_big_quiet_want; go_big_quiet_op; go_big_quiet_on) | (go_big_quiet_want; go_big_quiet_op; apply Exists.intro; refine ⟨fun x => ?_, ?_⟩; (first | (go_at_call 21; exact calls_below x (ex_Same _ _ _ R R true (eW7.next x.ok) (eP7.next x.ok) (by simp))) | (go_at_call 25; exact calls_below x (law_kept _))); go_big_quiet_on))
            refine wpQuiet_nil ?_
            intro _ hx
            obtain ⟨⟨w8, hb8⟩, rfl⟩ := hx
            go_wp2
            go_ret
            exact ⟨rfl, below_chain hz (below_chain hw7 hb8)⟩
    · have d1' : (p0 == ia) = false := by simp [d1]
      clear d1
      have d1 := d1'
      clear d1'
      by_cases d2 : p0 = ic
      · have d2' : (p0 == ic) = true := by simp [d2]
        clear d2
        have d2 := d2'
        clear d2'
        have hE := Hord.out.p2
        have n1 : ¬ p2 < ia := by omega
        have n2 : ¬ ic < p2 := by omega
        have HE := Lib.hid hE
        clear hE
        by_cases hb : 4611686018427387904 < p2
        · go_wp2_with fail
          refine (law_kept _).mono ?_
          rintro e w2 ⟨rfl, hb2⟩
          go_wp2
          go_ret
          exact ⟨rfl, below_chain hz (below_chain hw1 hb2)⟩
        · have HB := Lib.hid hb
          go_wp2_with fail
          clear hb d1 d2 n1 n2
          have hT1 := HT.out.next (show Below w1.heap.size w1 (w1.drewN nq) from below_drewN (Below.refl _ _) _)
          refine (tab_Range hT1 (by omega) x ia ic hx Hord.out.ba Hord.out.bc).mono ?_
          rintro e w2 ⟨vw, rfl, how, hb2⟩
          have hT2 := hT1.next hb2
          have hw2 := below_chain hw1 hb2
          have eW : Ents w2 vw (rangeE L x ia ic) := ⟨Reads.of_own how, fun e he => Hok.out e (List.mem_filter.1 he).1⟩
          go_wp2_with fail
          refine (tab_Range hT2 (by omega) x ia p2 hx Hord.out.ba (by have := Hord.out.bc; have := Hord.out.ba; have := HE.out; omega)).mono ?_
          rintro e w3 ⟨v3, rfl, ho3, hb3⟩
          have hT3 := hT2.next hb3
          have hw3 := below_chain hw2 hb3
          have wib : IntKind.i64.wrap (p2 + 1) = p2 + 1 := by rw [IntKind.wrap_i64]; have := HB.out; have := Hord.out.bc; have := Hord.out.ba; have := HE.out; omega
          go_wp2_with fail
          refine (tab_Range hT3 (by omega) x (p2 + 1) ic hx (by have := HB.out; have := Hord.out.bc; have := Hord.out.ba; have := HE.out; omega) Hord.out.bc).mono ?_
          rintro e w4 ⟨v4, rfl, ho4, hb4⟩
          have hT4 := hT3.next hb4
          have hw4 := below_chain hw3 hb4
          have ho3' := own_next ho3 hb4
          have hr4 := Reads.of_own ho4
          have l3 := rangeE_length L x ia p2
          have l4 := rangeE_length L x (p2 + 1) ic
          have hs4 := hb4.size
          have hs3 := hb3.size
          go_wp2_with (first
            | (at_builtin; refine wpList_append_reads _ rfl _ _ 22 rfl w2.heap.size 25 i0 _ 3 24 Try.underlying22 hi0 hz0 hz1 hz2 rfl (by decide) _ _ _ rfl ho3' _ _ _ rfl hr4 (entsC_one _) (by unfold maxLen; omega) (by omega) (by omega) ?_; intro vp w5 ho5 hg5))
          have hb25 : Below w2.heap.size w2 w5 := (below_chain hb3 hb4).grown hg5 (by omega) (own_block_ge ho3')
          have hT5 := hT2.next hb25
          have hw5 := below_chain hw2 hb25
          have eP : Ents w5 vp (rangeE L x ia ic) := by
            rw [range_split' HLs.out x HE.out.1 HE.out.2]
            refine ⟨?_, fun e he => ?_⟩
            · rw [entsC_append, List.length_append]
              exact Reads.of_own ho5
            · rcases List.mem_append.1 he with h | h
              · exact Hok.out e (List.mem_filter.1 h).1
              · exact Hok.out e (List.mem_filter.1 h).1
          have eW5 := eW.next hb25
          refine (tab_Range hT5 (by omega) x (-9223372036854775808) ic hx (by omega) Hord.out.bc).mono ?_
          rintro e w6 ⟨v6, rfl, ho6, hb6⟩
          have hT6 := hT5.next hb6
          have hw6 := below_chain hw5 hb6
          have eU : Ents w6 v6 (L.filter (uptoE x ic)) := by
            rw [range_upto Hok.out] at ho6
            exact ⟨Reads.of_own ho6, fun e he => Hok.out e (List.mem_filter.1 he).1⟩
          have cL := tab_Last hT6 x ic hx Hord.out.bc
          have hlast : lastE L x ic = (L.filter (uptoE x ic)).getLast? := rfl
          generalize hUdef : L.filter (uptoE x ic) = U at eU hlast
          rw [hlast] at cL
          have eP6 := eP.next hb6
          have eW6 := eW5.next hb6
          generalize rangeE L x ia ic = R at eP6 eW6
          clear ho6 ho5 ho4 ho3 ho3' hr4 eP eW eW5 how l3 l4 hg5 hT1 hT2 hT3 hT4 hT5
          rcases hU : U.getLast? with _ | ⟨z1, z2, z3⟩
          · have hU0 : U = [] := List.getLast?_eq_none_iff.1 hU
            subst hU0
            obtain ⟨⟨AU, cU, rfl, -, -, -, -⟩, -⟩ := id eU
            have cL0 : Calls Try.prog 37 #[.pointer (some ⟨g, 0, none⟩), .int .u64 x, .int .i64 ic] w6 fun e w' => e = .returned (.tuple #[.agg #[.int .u64 0, .int .i64 0, .int .i64 0], .bool false]) ∧ Below w6.heap.size w6 w' := cL
            clear cL
            go_wp2_with fail
            refine cL0.mono ?_
            rintro e w7 ⟨rfl, hb7⟩
            go_wp2_with fail
            have k7 := below_chain hb7 (below_lit w7 (.cells #[.int .u64 0, .int .i64 0, .int .i64 0] 25))
            have eP7 := eP6.next k7
            have eW7 := eW6.next k7
            have hw7 := below_chain hw6 k7
            refine wp_region_below (by kernel_rfl) (by kernel_rfl) ?_
            repeat (first | go_big_quiet_skip | (go_big_quiet_want; go_big_quiet_op; go_big_quiet_on) | (go_big_quiet_want; go_big_quiet_op; apply Exists.intro; refine ⟨fun x => ?_, ?_⟩; (first | (go_at_call 21; exact calls_below x (ex_Same _ _ _ R R true (eW7.next x.ok) (eP7.next x.ok) (by simp))) | (go_at_call 25; exact calls_below x (law_kept _))); go_big_quiet_on))
            refine wpQuiet_nil ?_
            intro _ hx
            obtain ⟨⟨w8, hb8⟩, rfl⟩ := hx
            go_wp2
            go_ret
            exact ⟨rfl, below_chain hz (below_chain hw7 hb8)⟩
          · have hq : U[U.length - 1]? = some (z1, z2, z3) := by rw [← List.getLast?_eq_getElem?]; exact hU
            have hpos : 0 < U.length := by
              rcases Nat.eq_zero_or_pos U.length with h | h
              · rw [List.eq_nil_of_length_eq_zero h] at hU; cases hU
              · exact h
            have cL0 : Calls Try.prog 37 #[.pointer (some ⟨g, 0, none⟩), .int .u64 x, .int .i64 ic] w6 fun e w' => e = .returned (.tuple #[.agg #[.int .u64 (z1 : Nat), .int .i64 z2, .int .i64 z3], .bool true]) ∧ Below w6.heap.size w6 w' := by rw [hU] at cL; exact cL
            clear cL
            obtain ⟨⟨AU, cU, rfl, -, -, -, -⟩, -⟩ := id eU
            obtain ⟨b6, off6, rfl, -, hc6⟩ := eU.later hpos
            have hc7 := hc6 _ _ hq
            obtain ⟨q, hqN⟩ : ∃ q, U.length = q + 1 := ⟨U.length - 1, by omega⟩
            have e1 : U.length - 1 = q := by omega
            have hN6 : U.length ≤ 1000000 := by
              have := eU.cells.1
              have h1 := List.length_filter_le (uptoE x ic) L
              have h2 := congrArg List.length hUdef
              omega
            rw [e1] at hc7
            generalize U.length = N at hqN hN6 ⊢
            have iq : (q : Int) < N := by omega
            have i0N : (0 : Int) < N := by omega
            have i0N2 : 0 < N := by omega
            have wq : IntKind.i64.wrap ((N : Int) - 1) = (q : Int) := by rw [IntKind.wrap_i64]; omega
            have Hc7 := Lib.hid hc7
            clear hc7 hc6 hq hqN hpos e1 hU eU hlast hUdef
            go_wp2_with fail
            refine cL0.mono ?_
            rintro e w7 ⟨rfl, hb7⟩
            go_wp2_with fail
            have k7 := below_chain hb7 (below_lit w7 (.cells #[.int .u64 (z1 : Nat), .int .i64 z2, .int .i64 z3] 25))
            have eP7 := eP6.next k7
            have eW7 := eW6.next k7
            have hw7 := below_chain hw6 k7
            have u0 := fun y : Later (w7.alloc (.cells #[.int .u64 (z1 : Nat), .int .i64 z2, .int .i64 z3] 25)) => (Hc7.out y.it (below_chain k7 y.ok)).1
            have u1 := fun y : Later (w7.alloc (.cells #[.int .u64 (z1 : Nat), .int .i64 z2, .int .i64 z3] 25)) => (Hc7.out y.it (below_chain k7 y.ok)).2.1
            have u2 := fun y : Later (w7.alloc (.cells #[.int .u64 (z1 : Nat), .int .i64 z2, .int .i64 z3] 25)) => (Hc7.out y.it (below_chain k7 y.ok)).2.2
            have t0 := fun y : Later (w7.alloc (.cells #[.int .u64 (z1 : Nat), .int .i64 z2, .int .i64 z3] 25)) => (ent_box w7 (z1, z2, z3) 25 y.it y.ok).1
            have t1 := fun y : Later (w7.alloc (.cells #[.int .u64 (z1 : Nat), .int .i64 z2, .int .i64 z3] 25)) => (ent_box w7 (z1, z2, z3) 25 y.it y.ok).2.1
            have t2 := fun y : Later (w7.alloc (.cells #[.int .u64 (z1 : Nat), .int .i64 z2, .int .i64 z3] 25)) => (ent_box w7 (z1, z2, z3) 25 y.it y.ok).2.2
            refine wp_region_below (by kernel_rfl) (by kernel_rfl) ?_
            repeat (first | go_big_quiet_skip | (go_big_quiet_want; go_big_quiet_op; go_big_quiet_on) | (go_big_quiet_want; go_big_quiet_op; apply Exists.intro; refine ⟨fun x => ?_, ?_⟩; (first | (go_at_call 21; exact calls_below x (ex_Same _ _ _ R R true (eW7.next x.ok) (eP7.next x.ok) (by simp))) | (go_at_call 25; exact calls_below x (law_kept _))); go_big_quiet_on))
            refine wpQuiet_nil ?_
            intro _ hx
            obtain ⟨⟨w8, hb8⟩, rfl⟩ := hx
            go_wp2
            go_ret
            exact ⟨rfl, below_chain hz (below_chain hw7 hb8)⟩
      · have d2' : (p0 == ic) = false := by simp [d2]
        clear d2
        have d2 := d2'
        clear d2'
        have hE := Hord.out.p0
        have n1 : ¬ p0 < ia := by omega
        have n2 : ¬ ic < p0 := by omega
        have HE := Lib.hid hE
        clear hE
        by_cases hb : 4611686018427387904 < p0
        · go_wp2_with fail
          refine (law_kept _).mono ?_
          rintro e w2 ⟨rfl, hb2⟩
          go_wp2
          go_ret
          exact ⟨rfl, below_chain hz (below_chain hw1 hb2)⟩
        · have HB := Lib.hid hb
          go_wp2_with fail
          clear hb d1 d2 n1 n2
          have hT1 := HT.out.next (show Below w1.heap.size w1 (w1.drewN nq) from below_drewN (Below.refl _ _) _)
          refine (tab_Range hT1 (by omega) x ia ic hx Hord.out.ba Hord.out.bc).mono ?_
          rintro e w2 ⟨vw, rfl, how, hb2⟩
          have hT2 := hT1.next hb2
          have hw2 := below_chain hw1 hb2
          have eW : Ents w2 vw (rangeE L x ia ic) := ⟨Reads.of_own how, fun e he => Hok.out e (List.mem_filter.1 he).1⟩
          go_wp2_with fail
          refine (tab_Range hT2 (by omega) x ia p0 hx Hord.out.ba (by have := Hord.out.bc; have := Hord.out.ba; have := HE.out; omega)).mono ?_
          rintro e w3 ⟨v3, rfl, ho3, hb3⟩
          have hT3 := hT2.next hb3
          have hw3 := below_chain hw2 hb3
          have wib : IntKind.i64.wrap (p0 + 1) = p0 + 1 := by rw [IntKind.wrap_i64]; have := HB.out; have := Hord.out.bc; have := Hord.out.ba; have := HE.out; omega
          go_wp2_with fail
          refine (tab_Range hT3 (by omega) x (p0 + 1) ic hx (by have := HB.out; have := Hord.out.bc; have := Hord.out.ba; have := HE.out; omega) Hord.out.bc).mono ?_
          rintro e w4 ⟨v4, rfl, ho4, hb4⟩
          have hT4 := hT3.next hb4
          have hw4 := below_chain hw3 hb4
          have ho3' := own_next ho3 hb4
          have hr4 := Reads.of_own ho4
          have l3 := rangeE_length L x ia p0
          have l4 := rangeE_length L x (p0 + 1) ic
          have hs4 := hb4.size
          have hs3 := hb3.size
          go_wp2_with (first
            | (at_builtin; refine wpList_append_reads _ rfl _ _ 22 rfl w2.heap.size 25 i0 _ 3 24 Try.underlying22 hi0 hz0 hz1 hz2 rfl (by decide) _ _ _ rfl ho3' _ _ _ rfl hr4 (entsC_one _) (by unfold maxLen; omega) (by omega) (by omega) ?_; intro vp w5 ho5 hg5))
          have hb25 : Below w2.heap.size w2 w5 := (below_chain hb3 hb4).grown hg5 (by omega) (own_block_ge ho3')
          have hT5 := hT2.next hb25
          have hw5 := below_chain hw2 hb25
          have eP : Ents w5 vp (rangeE L x ia ic) := by
            rw [range_split' HLs.out x HE.out.1 HE.out.2]
            refine ⟨?_, fun e he => ?_⟩
            · rw [entsC_append, List.length_append]
              exact Reads.of_own ho5
            · rcases List.mem_append.1 he with h | h
              · exact Hok.out e (List.mem_filter.1 h).1
              · exact Hok.out e (List.mem_filter.1 h).1
          have eW5 := eW.next hb25
          refine (tab_Range hT5 (by omega) x (-9223372036854775808) ic hx (by omega) Hord.out.bc).mono ?_
          rintro e w6 ⟨v6, rfl, ho6, hb6⟩
          have hT6 := hT5.next hb6
          have hw6 := below_chain hw5 hb6
          have eU : Ents w6 v6 (L.filter (uptoE x ic)) := by
            rw [range_upto Hok.out] at ho6
            exact ⟨Reads.of_own ho6, fun e he => Hok.out e (List.mem_filter.1 he).1⟩
          have cL := tab_Last hT6 x ic hx Hord.out.bc
          have hlast : lastE L x ic = (L.filter (uptoE x ic)).getLast? := rfl
          generalize hUdef : L.filter (uptoE x ic) = U at eU hlast
          rw [hlast] at cL
          have eP6 := eP.next hb6
          have eW6 := eW5.next hb6
          generalize rangeE L x ia ic = R at eP6 eW6
          clear ho6 ho5 ho4 ho3 ho3' hr4 eP eW eW5 how l3 l4 hg5 hT1 hT2 hT3 hT4 hT5
          rcases hU : U.getLast? with _ | ⟨z1, z2, z3⟩
          · have hU0 : U = [] := List.getLast?_eq_none_iff.1 hU
            subst hU0
            obtain ⟨⟨AU, cU, rfl, -, -, -, -⟩, -⟩ := id eU
            have cL0 : Calls Try.prog 37 #[.pointer (some ⟨g, 0, none⟩), .int .u64 x, .int .i64 ic] w6 fun e w' => e = .returned (.tuple #[.agg #[.int .u64 0, .int .i64 0, .int .i64 0], .bool false]) ∧ Below w6.heap.size w6 w' := cL
            clear cL
            go_wp2_with fail
            refine cL0.mono ?_
            rintro e w7 ⟨rfl, hb7⟩
            go_wp2_with fail
            have k7 := below_chain hb7 (below_lit w7 (.cells #[.int .u64 0, .int .i64 0, .int .i64 0] 25))
            have eP7 := eP6.next k7
            have eW7 := eW6.next k7
            have hw7 := below_chain hw6 k7
            refine wp_region_below (by kernel_rfl) (by kernel_rfl) ?_
            repeat (first | go_big_quiet_skip | (go_big_quiet_want; go_big_quiet_op; go_big_quiet_on) | (go_big_quiet_want; go_big_quiet_op; apply Exists.intro; refine ⟨fun x => ?_, ?_⟩; (first | (go_at_call 21; exact calls_below x (ex_Same _ _ _ R R true (eW7.next x.ok) (eP7.next x.ok) (by simp))) | (go_at_call 25; exact calls_below x (law_kept _))); go_big_quiet_on))
            refine wpQuiet_nil ?_
            intro _ hx
            obtain ⟨⟨w8, hb8⟩, rfl⟩ := hx
            go_wp2
            go_ret
            exact ⟨rfl, below_chain hz (below_chain hw7 hb8)⟩
          · have hq : U[U.length - 1]? = some (z1, z2, z3) := by rw [← List.getLast?_eq_getElem?]; exact hU
            have hpos : 0 < U.length := by
              rcases Nat.eq_zero_or_pos U.length with h | h
              · rw [List.eq_nil_of_length_eq_zero h] at hU; cases hU
              · exact h
            have cL0 : Calls Try.prog 37 #[.pointer (some ⟨g, 0, none⟩), .int .u64 x, .int .i64 ic] w6 fun e w' => e = .returned (.tuple #[.agg #[.int .u64 (z1 : Nat), .int .i64 z2, .int .i64 z3], .bool true]) ∧ Below w6.heap.size w6 w' := by rw [hU] at cL; exact cL
            clear cL
            obtain ⟨⟨AU, cU, rfl, -, -, -, -⟩, -⟩ := id eU
            obtain ⟨b6, off6, rfl, -, hc6⟩ := eU.later hpos
            have hc7 := hc6 _ _ hq
            obtain ⟨q, hqN⟩ : ∃ q, U.length = q + 1 := ⟨U.length - 1, by omega⟩
            have e1 : U.length - 1 = q := by omega
            have hN6 : U.length ≤ 1000000 := by
              have := eU.cells.1
              have h1 := List.length_filter_le (uptoE x ic) L
              have h2 := congrArg List.length hUdef
              omega
            rw [e1] at hc7
            generalize U.length = N at hqN hN6 ⊢
            have iq : (q : Int) < N := by omega
            have i0N : (0 : Int) < N := by omega
            have i0N2 : 0 < N := by omega
            have wq : IntKind.i64.wrap ((N : Int) - 1) = (q : Int) := by rw [IntKind.wrap_i64]; omega
            have Hc7 := Lib.hid hc7
            clear hc7 hc6 hq hqN hpos e1 hU eU hlast hUdef
            go_wp2_with fail
            refine cL0.mono ?_
            rintro e w7 ⟨rfl, hb7⟩
            go_wp2_with fail
            have k7 := below_chain hb7 (below_lit w7 (.cells #[.int .u64 (z1 : Nat), .int .i64 z2, .int .i64 z3] 25))
            have eP7 := eP6.next k7
            have eW7 := eW6.next k7
            have hw7 := below_chain hw6 k7
            have u0 := fun y : Later (w7.alloc (.cells #[.int .u64 (z1 : Nat), .int .i64 z2, .int .i64 z3] 25)) => (Hc7.out y.it (below_chain k7 y.ok)).1
            have u1 := fun y : Later (w7.alloc (.cells #[.int .u64 (z1 : Nat), .int .i64 z2, .int .i64 z3] 25)) => (Hc7.out y.it (below_chain k7 y.ok)).2.1
            have u2 := fun y : Later (w7.alloc (.cells #[.int .u64 (z1 : Nat), .int .i64 z2, .int .i64 z3] 25)) => (Hc7.out y.it (below_chain k7 y.ok)).2.2
            have t0 := fun y : Later (w7.alloc (.cells #[.int .u64 (z1 : Nat), .int .i64 z2, .int .i64 z3] 25)) => (ent_box w7 (z1, z2, z3) 25 y.it y.ok).1
            have t1 := fun y : Later (w7.alloc (.cells #[.int .u64 (z1 : Nat), .int .i64 z2, .int .i64 z3] 25)) => (ent_box w7 (z1, z2, z3) 25 y.it y.ok).2.1
            have t2 := fun y : Later (w7.alloc (.cells #[.int .u64 (z1 : Nat), .int .i64 z2, .int .i64 z3] 25)) => (ent_box w7 (z1, z2, z3) 25 y.it y.ok).2.2
            refine wp_region_below (by kernel_rfl) (by kernel_rfl) ?_
            repeat (first | go_big_quiet_skip | (go_big_quiet_want; go_big_quiet_op; go_big_quiet_on) | (go_big_quiet_want; go_big_quiet_op; apply Exists.intro; refine ⟨fun x => ?_, ?_⟩; (first | (go_at_call 21; exact calls_below x (ex_Same _ _ _ R R true (eW7.next x.ok) (eP7.next x.ok) (by simp))) | (go_at_call 25; exact calls_below x (law_kept _))); go_big_quiet_on))
            refine wpQuiet_nil ?_
            intro _ hx
            obtain ⟨⟨w8, hb8⟩, rfl⟩ := hx
            go_wp2
            go_ret
            exact ⟨rfl, below_chain hz (below_chain hw7 hb8)⟩
  · have i1 : (80 : Int) < l.length := by omega
    go_enter Try.func10, Try.ntmps10
    go_wp2_with fail
    refine (law_kept _).mono ?_
    rintro e w1 ⟨rfl, hb1⟩
    go_wp2
    go_ret
    exact ⟨rfl, below_chain hz hb1⟩
end Go.Proofs.Ytikodobglhjoiaa
