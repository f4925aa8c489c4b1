/-
  MERGES: the program's Merge.
-/
import Derived.Test.YtigjjggkcagkmaaMergeAt
namespace Go.Proofs.Ytigjjggkcagkmaa
open Go.RowKit
set_option linter.unusedVariables false

theorem own_base1 {w : World} {base base' n size : Nat} {e : TypeId} {v : Value} {xs : List Value} (h : w.ownsRow base e size v n xs) (hb : base' ≤ base) : w.ownsRow base' e size v n xs := by
  refine ⟨h.1, ?_⟩
  rcases h.2 with hn | ⟨g, cap, cur, hv, hbs, rest⟩
  · exact .inl hn
  · exact .inr ⟨g, cap, cur, hv, Nat.le_trans hb hbs, rest⟩
theorem set_same {α : Type} {l : List α} {k : Nat} {a : α} (h : l[k]? = some a) : l.set k a = l := by
  apply List.ext_getElem?
  intro i
  rw [List.getElem?_set]
  by_cases hi : k = i
  · subst hi
    have := (List.getElem?_eq_some_iff.1 h).1
    rw [if_pos rfl, if_pos this, h]
  · rw [if_neg hi]
theorem ent_ne {x e : Ent} (h : x ≠ e) : decide (x.1 = e.1 ∧ x.2.1 = e.2.1 ∧ x.2.2 = e.2.2) = false := by
  rw [decide_eq_false_iff_not]
  rintro ⟨h1, h2, h3⟩
  exact h (Prod.ext h1 (Prod.ext h2 h3))
theorem row3 {w : World} {g : Nat} {t : TypeId} {a b c : Value} (h : Row w g t [a, b, c]) : w.cell? ⟨g, 0, none⟩ = some a ∧ w.cell? ⟨g, 1, none⟩ = some b ∧ w.cell? ⟨g, 2, none⟩ = some c := ⟨h.cell 0 (by simp), h.cell 1 (by simp), h.cell 2 (by simp)⟩
theorem asOf_get {w : World} {g k m b : Nat} {t : TypeId} {qs : List Nat} (h : Row w g t (asC qs)) (hl : qs.length = k) (hb : qs[m]? = some b) : ((asOf w g k)[m]?).getD 0 = b := by
  subst hl
  rw [asOf_row h, hb]; rfl
theorem lt_past {n x y a : Nat} (h1 : x = a) (h2 : y = a + 1) (h : a < n) : n - y < n - x := by omega
theorem infoEntM : (Try.prog.info? 40).map (fun i => (i.zero, i.size, i.bytes)) = some (some (.agg #[.int .u64 0, .int .i64 0, .int .i64 0]), 3, 24) := by kernel_rfl
theorem entsC_oneM (l : List Ent) : ∀ u ∈ entsC l, u.oneCell' = true := by
  intro u hu
  obtain ⟨e, _, he⟩ := List.mem_flatMap.1 hu
  simp only [entL, List.mem_cons, List.not_mem_nil, or_false] at he
  rcases he with rfl | rfl | rfl <;> rfl
theorem entsC_appendM (a b : List Ent) : entsC (a ++ b) = entsC a ++ entsC b := List.flatMap_append
theorem ents_litM (w : World) (e : Ent) : Reads (w.alloc (.cells #[.int .u64 (e.1 : Nat), .int .i64 e.2.1, .int .i64 e.2.2] 40)) (.slice (some ⟨w.heap.size, 0, none⟩) 1 1) 3 1 (entsC [e]) :=
  Reads.of_row (Row.new w #[.int .u64 (e.1 : Nat), .int .i64 e.2.1, .int .i64 e.2.2] 40) rfl (Nat.le_refl _) (by unfold maxLen; omega)
theorem asOf_rowN {w : World} {g n : Nat} {t : TypeId} {qs : List Nat} (h : Row w g t (asC qs)) (hl : qs.length = n) : asOf w g n = qs := by
  subst hl
  exact asOf_row h
theorem belowLitM (w : World) (o : Obj) : Below w.heap.size w (w.alloc o) := (Below.refl w.heap.size w).alloc (Nat.le_refl _) o
theorem total_mem {l : List Ent} {ls : List (List Ent)} (h : l ∈ ls) : l.length ≤ totalM ls := by
  induction ls with
  | nil => cases h
  | cons x ls ih =>
    unfold totalM at ih ⊢
    simp only [List.map_cons, List.sum_cons]
    rcases List.mem_cons.1 h with rfl | h
    · omega
    · have := ih h; omega
set_option maxRecDepth 4000 in
set_option maxHeartbeats 8000000 in
theorem merges_Merge (v : Value) (ls : List (List Ent)) (w : World) (h : Lists w v ls) (hn : ls.length ≤ 1000) (ht : totalM ls ≤ 1000000) :
    Calls Try.prog 26 #[v] w fun e w' => ∃ A c, e = .returned (.slice A (mergeL ls).length c) ∧ w'.ownsRow w.heap.size 40 3 (.slice A (mergeL ls).length c) (mergeL ls).length (entsC (mergeL ls)) ∧ (∀ e ∈ mergeL ls, okE e) ∧ Below w.heap.size w w' := by
  obtain ⟨vs, hvl, hr, hx⟩ := h
  obtain ⟨A, c, rfl, hc1, hc2, -, hcell⟩ := id hr
  obtain ⟨n, hnl⟩ : ∃ n, n = ls.length := ⟨_, rfl⟩
  rw [hvl, ← hnl] at hc1
  rw [← hnl] at hn
  have hlen : ∀ (k : Nat) (l : List Ent), ls[k]? = some l → l.length ≤ 1000000 := fun k l hl => by
    have h1 : l ∈ ls := List.mem_of_getElem? hl
    have h2 := total_mem h1
    omega
  have hhead : ∀ (k : Nat) (l : List Ent), ls[k]? = some l → ∃ bb off A' c', A = some ⟨bb, off, none⟩ ∧ (∀ w' : World, Below w.heap.size w w' → w'.cell? ⟨bb, off + k, none⟩ = some (.slice A' l.length c')) ∧ l.length ≤ c' ∧ c' ≤ maxLen ∧ (∀ e ∈ l, okE e) ∧
      (0 < l.length → ∃ b' off', A' = some ⟨b', off', none⟩ ∧ ∀ (a : Nat) (e : Ent), l[a]? = some e → ∀ w' : World, Below w.heap.size w w' → w'.cell? ⟨b', off' + a * 3, none⟩ = some (.int .u64 (e.1 : Nat)) ∧ w'.cell? ⟨b', off' + a * 3 + 1, none⟩ = some (.int .i64 e.2.1) ∧ w'.cell? ⟨b', off' + a * 3 + 2, none⟩ = some (.int .i64 e.2.2)) := by
    intro k l hl
    have hk := (List.getElem?_eq_some_iff.1 hl).1
    obtain ⟨bb, off, hA, hlt, hc⟩ := hcell (by omega)
    have hk2 : k < vs.length := by omega
    have hE := hx k vs[k] l (List.getElem?_eq_getElem hk2) hl
    obtain ⟨⟨A', c', hv', -, -, -, -⟩, hok⟩ := id hE
    have hE' := hE
    rw [hv'] at hE'
    obtain ⟨-, q1, q2, -⟩ := hE'.cells
    refine ⟨bb, off, A', c', hA, fun w' hb => ?_, q1, q2, hok, fun h0 => ?_⟩
    · rw [← hv', ← hc k hk2]
      exact hb.cell (p := ⟨bb, off + k, none⟩) hlt
    · obtain ⟨b', off', hA', -, hcc⟩ := hE'.later h0
      exact ⟨b', off', hA', fun a e he w' hb => hcc a e he w' hb⟩
  have hmn : n ≤ maxLen := by unfold maxLen; omega
  obtain ⟨w1, hmk, hrow1, hb1, hgt⟩ := make_ints w n (by omega)
  have hstart : Within ls (List.replicate n 0) := ⟨by rw [List.length_replicate, hnl], fun k l a h1 h2 => by
    have := List.eq_of_mem_replicate (List.mem_of_getElem? h2); omega⟩
  have hleft0 : leftM ls (List.replicate n 0) = ls := by rw [hnl]; exact left_zero ls
  have hown0 : w1.ownsRow w1.heap.size 40 3 (.slice none 0 0) 0 (entsC []) := World.ownsRow_nil _ _ _ _
  have Hhead := Lib.hid hhead
  have Hlen := Lib.hid hlen
  have Hnl := Lib.hid hnl
  rw [hvl, ← hnl]
  clear hhead hlen hnl hx hcell hr hvl
  go_enter Try.func26, Try.ntmps26
  go_wp2_with fail
  go_step3
  go_wp2_with fail
  go_step3
  go_wp2_with fail
  obtain ⟨G, hG⟩ : ∃ G, G = w.heap.size := ⟨_, rfl⟩
  go_loopw [3] (fun out wr => ∃ (ps : List Nat) (o : List Ent) (A' : Option Addr) (c' : Nat), Within ls ps ∧ out = .slice A' o.length c' ∧ wr.ownsRow w1.heap.size 40 3 (.slice A' o.length c') o.length (entsC o) ∧ Row wr w.heap.size 3 (asC ps) ∧ Below w.heap.size w wr ∧ w1.heap.size ≤ wr.heap.size ∧ mergeTo (leftM ls ps) o = mergeL ls ∧ (∀ e ∈ o, okE e) ∧ o.length + totalM (leftM ls ps) ≤ 1000000) (fun _ wr => totalM (leftM ls (asOf wr w.heap.size n)))
  case atStart => exact ⟨List.replicate n 0, [], none, 0, hstart, rfl, hown0, hrow1, hb1, Nat.le_refl _, by rw [hleft0]; rfl, by simp, by rw [hleft0]; simpa using ht⟩
  case round =>
    obtain ⟨ps, o, A0, c0, hin, rfl, hown, hrow, hbr, hsz, hto, hoo, htot⟩ := hrel
    have Hown := Lib.hid hown
    have Hrow := Lib.hid hrow
    have Hin := Lib.hid hin
    have Hto := Lib.hid hto
    have Hoo := Lib.hid hoo
    clear hown hrow hin hto hoo hown0 hrow1 hmk hstart hleft0
    go_wp2_with fail
    obtain ⟨wo, rfl⟩ : ∃ x, x = wr := ⟨_, rfl⟩
    go_loopw [5, 17] (fun best i wi => ∃ (k : Nat) (j : Int), k ≤ n ∧ i = .int .i64 (k : Int) ∧ best = .int .i64 j ∧ BestIs ls ps k j ∧ Below wo.heap.size wo wi) (fun _ i _ => n - (intOf i).toNat)
    case atStart => exact ⟨0, -1, Nat.zero_le _, rfl, rfl, best_zero _ _, Below.refl _ _⟩
    case round =>
      obtain ⟨k, j, hk, rfl, rfl, hbest, hbi⟩ := hrel
      by_cases hlt : k < n
      · have i1 : (k : Int) < n := by omega
        obtain ⟨l, hl⟩ : ∃ l, ls[k]? = some l := ⟨_, List.getElem?_eq_getElem (by have := Hnl.out; omega)⟩
        obtain ⟨a, ha⟩ : ∃ a, ps[k]? = some a := ⟨_, List.getElem?_eq_getElem (by have := Hin.out.1; have := Hnl.out; omega)⟩
        have hal := Hin.out.2 k l a hl ha
        have hll := Hlen.out k l hl
        obtain ⟨bb, off, A', c', rfl, hh1, hh2, hh3, hh4, hh5⟩ := Hhead.out k l hl
        have hbW := below_chain hbr hbi
        have f0 := hh1 wr hbW
        have f1 := fun x : Later wr => hh1 x.it (below_chain hbW x.ok)
        have hR := Hrow.out.next hbi
        have f2 := fun x : Later wr => (row_at (hR.next x.ok) ha).1
        have Hh5 := Lib.hid hh5
        have Hh4 := Lib.hid hh4
        have HR := Lib.hid hR
        unfold maxLen at hh3
        clear hh1 hh5 hh4 hR
        by_cases halt : a < l.length
        · have i2 : (a : Int) < l.length := by omega
          obtain ⟨e, he⟩ : ∃ e, l[a]? = some e := ⟨_, List.getElem?_eq_getElem halt⟩
          have oe := Hh4.out e (List.mem_of_getElem? he)
          rcases hbest with ⟨rfl, hnone⟩ | ⟨b, lb', ab, eb, hbk, rfl, g1, g2, g3, hsome⟩
          · have Hnone := Lib.hid hnone
            clear hnone
            go_wp2_with fail
            refine wp_region_below (by kernel_rfl) (by kernel_rfl) ?_
            repeat (first | go_big_quiet_skip | (go_big_quiet_want; go_big_quiet_op; go_big_quiet_on) | (go_big_quiet_want; go_big_quiet_op; apply Exists.intro; refine ⟨fun x => ?_, ?_⟩; (fail); go_big_quiet_on))
            refine wpQuiet_nil ?_
            intro _ hx
            obtain ⟨⟨w2, hb2⟩, rfl⟩ := hx
            go_wp2
            go_roundw
            case rel => exact ⟨k + 1, k, by omega, rfl, rfl, best_first Hnone.out hl ha he, below_chain hbi hb2⟩
            case measure => simp [intOf]; omega
          · have hj0 : decide ((b : Int) < 0) = false := decide_eq_false (by omega)
            have hj1 : (0 : Int) ≤ (b : Int) := by omega
            have hbn : (b : Int) < n := by omega
            have hab : ab < lb'.length := (List.getElem?_eq_some_iff.1 g3).1
            have hab' : (ab : Int) < lb'.length := by omega
            have hlb := Hlen.out b lb' g1
            obtain ⟨bb2, off2, A2, c2, hA2, kh1, kh2, kh3, kh4, kh5⟩ := Hhead.out b lb' g1
            cases hA2
            obtain ⟨q1, r1, rfl, hq⟩ := Hh5.out (by omega)
            obtain ⟨q2, r2, rfl, hq2⟩ := kh5 (by omega)
            have oeb := kh4 eb (List.mem_of_getElem? g3)
            unfold maxLen at kh3
            have m1 := fun x : Later wr => kh1 x.it (below_chain hbW x.ok)
            have m2 := fun x : Later wr => (row_at (HR.out.next x.ok) g2).1
            have ca := fun x : Later wr => hq a e he x.it (below_chain hbW x.ok)
            have cb := fun x : Later wr => hq2 ab eb g3 x.it (below_chain hbW x.ok)
            have ca0 := fun x => (ca x).1
            have ca1 := fun x => (ca x).2.1
            have ca2 := fun x => (ca x).2.2
            have cb0 := fun x => (cb x).1
            have cb1 := fun x => (cb x).2.1
            have cb2 := fun x => (cb x).2.2
            have Hsome := Lib.hid hsome
            clear hsome ca cb hq hq2 kh1 kh4 kh5
            go_wp2_with fail
            refine wp_region_below (by kernel_rfl) (by kernel_rfl) ?_
            repeat (first | go_big_quiet_skip | (go_big_quiet_want; go_big_quiet_op; go_big_quiet_on) | (go_big_quiet_want; go_big_quiet_op; apply Exists.intro; refine ⟨fun x => ?_, ?_⟩; (first | (go_at_call 41; exact calls_below x (entries_Less e eb _ oe oeb))); go_big_quiet_on))
            refine wpQuiet_nil ?_
            intro _ hx
            obtain ⟨⟨w2, hb2⟩, rfl⟩ := hx
            rcases hle : lessE e eb with _ | _
            · go_wp2
              go_roundw
              case rel => exact ⟨k + 1, b, by omega, rfl, rfl, best_more Hsome.out hbk g1 g2 g3 hl ha he hle, below_chain hbi hb2⟩
              case measure => simp [intOf]; omega
            · go_wp2
              go_roundw
              case rel => exact ⟨k + 1, k, by omega, rfl, rfl, best_less Hsome.out hl ha he hle, below_chain hbi hb2⟩
              case measure => simp [intOf]; omega
        · have i2 : ¬ (a : Int) < l.length := by omega
          have Hb := Lib.hid hbest
          clear hbest
          go_wp2_with fail
          refine wp_region_below (by kernel_rfl) (by kernel_rfl) ?_
          repeat (first | go_big_quiet_skip | (go_big_quiet_want; go_big_quiet_op; go_big_quiet_on) | (go_big_quiet_want; go_big_quiet_op; apply Exists.intro; refine ⟨fun x => ?_, ?_⟩; (fail); go_big_quiet_on))
          refine wpQuiet_nil ?_
          intro _ hx
          obtain ⟨⟨w2, hb2⟩, rfl⟩ := hx
          go_wp2
          go_roundw
          case rel => exact ⟨k + 1, j, by omega, rfl, rfl, best_skip Hb.out hl ha (by omega), below_chain hbi hb2⟩
          case measure => simp [intOf]; omega
      · obtain rfl : k = n := by omega
        have i1 : ¬ (k : Int) < k := by omega
        have hall := oM_all Hin.out.1
        rw [← Hnl.out] at hall
        rcases hbest with ⟨rfl, hnone⟩ | ⟨b, lb', ab, eb, hbk, rfl, g1, g2, g3, hsome⟩
        · have hm := mergeTo_none (out := o) (hall.symm.trans hnone)
          have hfin : o = mergeL ls := hm.symm.trans Hto.out
          subst hfin
          have hown := own_base1 (own_next Hown.out hbi) (Nat.le_of_lt hgt)
          have Hown2 := Lib.hid hown
          clear hown hall hnone hm
          go_wp2
          go_ret
          exact ⟨A0, c0, rfl, Hown2.out, Hoo.out, below_chain hbr hbi⟩
        · have hstep := mergeTo_step (out := o) (hall.symm.trans hsome)
          have hnext := left_next (e := eb) Hin.out
          have hj0 : decide ((b : Int) < 0) = false := decide_eq_false (by omega)
          have hj1 : (0 : Int) ≤ (b : Int) := by omega
          have hbn : (b : Int) < k := by omega
          have hab : ab < lb'.length := (List.getElem?_eq_some_iff.1 g3).1
          have hab' : (ab : Int) < lb'.length := by omega
          have hlb := Hlen.out b lb' g1
          have hbW := below_chain hbr hbi
          obtain ⟨bb, off, A2, c2, rfl, kh1, kh2, kh3, kh4, kh5⟩ := Hhead.out b lb' g1
          obtain ⟨q2, r2, rfl, hq2⟩ := kh5 (by omega)
          have oeb := kh4 eb (List.mem_of_getElem? g3)
          unfold maxLen at kh3
          have m1 := kh1 wr hbW
          have m2 := (row_at (Hrow.out.next hbi) g2).1
          obtain ⟨cb0, cb1, cb2⟩ := hq2 ab eb g3 wr hbW
          have al := fun o => (Below.refl wr.heap.size wr).alloc (Nat.le_refl _) o
          have n1 := fun o => kh1 _ (below_chain hbW (al o))
          have n2 := fun o => (row_at ((Hrow.out.next hbi).next (al o)) g2).1
          have nb := fun o => hq2 ab eb g3 _ (below_chain hbW (al o))
          have nb0 := fun o => (nb o).1
          have nb1 := fun o => (nb o).2.1
          have nb2 := fun o => (nb o).2.2
          clear nb al
          have Hstep := Lib.hid hstep
          have Hnext := Lib.hid hnext
          clear hstep hnext hall hsome hq2 kh1 kh4 kh5
          go_wp2_with fail
          go_region
          clear m1 m2 cb0 cb1 cb2 n1 n2 nb0 nb1 nb2
          have hrE := (Row.new wr #[.int .u64 (eb.1 : Nat), .int .i64 eb.2.1, .int .i64 eb.2.2] 40).drew
          have hb3 := ((Below.refl wr.heap.size wr).alloc (Nat.le_refl _) (.cells #[.int .u64 (eb.1 : Nat), .int .i64 eb.2.1, .int .i64 eb.2.2] 40)).drew
          have hrow3 := (Hrow.out.next hbi).next hb3
          have hown3 := own_next (own_next Hown.out hbi) hb3
          have hbw3 := below_chain hbW hb3
          have hgE : w.heap.size < wr.heap.size := (Hrow.out.next hbi).lt
          have hwE : w1.heap.size ≤ wr.heap.size := Nat.le_trans hsz hbi.size
          obtain ⟨E, hE⟩ : ∃ E, E = wr.heap.size := ⟨_, rfl⟩
          rw [← hE] at hrE hgE hwE ⊢
          generalize (wr.alloc (.cells #[.int .u64 (eb.1 : Nat), .int .i64 eb.2.1, .int .i64 eb.2.2] 40)).drew = W3 at hrE hb3 hrow3 hown3 hbw3 ⊢
          have hE3 : E < W3.heap.size := hrE.lt
          clear hb3 hE
          have hpl := Hin.out.1
          have Hpl := Lib.hid hpl
          have hmw : asOf wo w.heap.size k = ps := by
            have h1 := asOf_row Hrow.out
            rw [hpl, ← Hnl.out] at h1
            exact h1
          have Hmw := Lib.hid hmw
          clear hmw
          obtain ⟨i0, hi0, hz0, hz1, hz2⟩ := info_parts infoEntM
          have Hr3 := Lib.hid hrow3
          have HO3 := Lib.hid hown3
          have HE3 := Lib.hid hrE
          clear hpl hrow3 hown3 hrE Hrow Hown
          go_wp2_with fail
          go_loopw [69] (fun i wj => ∃ m : Nat, m ≤ k ∧ i = .int .i64 (m : Int) ∧ Row wj w.heap.size 3 (asC (midM eb ls ps m)) ∧ Row wj E 40 [.int .u64 (eb.1 : Nat), .int .i64 eb.2.1, .int .i64 eb.2.2] ∧ wj.ownsRow w1.heap.size 40 3 (.slice A0 o.length c0) o.length (entsC o) ∧ Below w.heap.size w wj ∧ W3.heap.size ≤ wj.heap.size) (fun i _ => k - (intOf i).toNat)
          case atStart => exact ⟨0, Nat.zero_le _, rfl, by rw [mid_zero]; exact Hr3.out, HE3.out, HO3.out, hbw3, Nat.le_refl _⟩
          case round =>
            obtain ⟨wj, rfl⟩ : ∃ x, x = wr := ⟨_, rfl⟩
            obtain ⟨m, hm, rfl, hrj, hej, hoj, hbj, hsj⟩ := hrel
            have Hrj := Lib.hid hrj
            have Hej := Lib.hid hej
            have Hoj := Lib.hid hoj
            clear hrj hej hoj
            by_cases hlt2 : m < k
            · have j1 : (m : Int) < k := by omega
              obtain ⟨l, hl⟩ : ∃ l, ls[m]? = some l := ⟨_, List.getElem?_eq_getElem (by have := Hnl.out; omega)⟩
              obtain ⟨a, ha⟩ : ∃ a, ps[m]? = some a := ⟨_, List.getElem?_eq_getElem (by have := Hpl.out; have := Hnl.out; omega)⟩
              have hal := Hin.out.2 m l a hl ha
              have hll := Hlen.out m l hl
              obtain ⟨bb2, off2, A', c', hA2, hh1, hh2, hh3, hh4, hh5⟩ := Hhead.out m l hl
              cases hA2
              unfold maxLen at hh3
              have f0 := hh1 wj hbj
              have hmg := (mid_get (e := eb) Hpl.out m (by have := Hnl.out; omega)).trans ha
              have Hh5 := Lib.hid hh5
              have Hmg := Lib.hid hmg
              have hml : (midM eb ls ps m).length = k := by rw [mid_len Hpl.out m (by have := Hnl.out; omega), Hnl.out]
              have Hml := Lib.hid hml
              clear hh1 hh5 hh4 hmg hml
              go_wp2_with fail
              go_loopw [91] (fun _ wl => ∃ a' : Nat, a ≤ a' ∧ a' ≤ l.length ∧ pastM eb l a' = pastM eb l a ∧ Row wl w.heap.size 3 (asC ((midM eb ls ps m).set m a')) ∧ Row wl E 40 [.int .u64 (eb.1 : Nat), .int .i64 eb.2.1, .int .i64 eb.2.2] ∧ wl.ownsRow w1.heap.size 40 3 (.slice A0 o.length c0) o.length (entsC o) ∧ Below w.heap.size w wl ∧ W3.heap.size ≤ wl.heap.size) (fun _ wl => l.length - ((asOf wl w.heap.size k)[m]?.getD 0))
              case atStart => exact ⟨a, Nat.le_refl _, hal, rfl, by rw [set_same Hmg.out]; exact Hrj.out, Hej.out, Hoj.out, hbj, hsj⟩
              case round =>
                obtain ⟨a', haa, hal', hpa, hrl, hel, hol, hbl, hsl⟩ := hrel
                have hget : ((midM eb ls ps m).set m a')[m]? = some a' := by rw [List.getElem?_set_self (by rw [Hml.out]; exact hlt2)]
                have f2 := fun x : Later wr => (row_at (hrl.next x.ok) hget).1
                have fe := fun x : Later wr => row3 (hel.next x.ok)
                have fe0 := fun x => (fe x).1
                have fe1 := fun x => (fe x).2.1
                have fe2 := fun x => (fe x).2.2
                have Hrl := Lib.hid hrl
                have Hel := Lib.hid hel
                have Hol := Lib.hid hol
                have Hget := Lib.hid hget
                clear hrl hel hol fe hget
                by_cases halt : a' < l.length
                · have i2 : (a' : Int) < l.length := by omega
                  obtain ⟨x, hx⟩ : ∃ x, l[a']? = some x := ⟨_, List.getElem?_eq_getElem halt⟩
                  obtain ⟨q1, r1, rfl, hq⟩ := Hh5.out (by omega)
                  have ca := fun y : Later wr => hq a' x hx y.it (below_chain hbl y.ok)
                  have ca0 := fun y => (ca y).1
                  have ca1 := fun y => (ca y).2.1
                  have ca2 := fun y => (ca y).2.2
                  have Hx := Lib.hid hx
                  clear ca hq hx
                  by_cases hxe : x = eb
                  · subst hxe
                    have i3 : IntKind.i64.wrap ((a' : Int) + 1) = ((a' + 1 : Nat) : Int) := by rw [IntKind.wrap_i64]; omega
                    go_wp2_with fail
                    refine wp_region_below (by kernel_rfl) (by kernel_rfl) ?_
                    repeat (first | go_big_quiet_skip | (go_big_quiet_want; go_big_quiet_op; go_big_quiet_on) | (go_big_quiet_want; go_big_quiet_op; apply Exists.intro; refine ⟨fun x => ?_, ?_⟩; (fail); go_big_quiet_on))
                    refine wpQuiet_nil ?_
                    intro _ hx
                    obtain ⟨⟨w4, hb4⟩, rfl⟩ := hx
                    have hr4 := Hrl.out.next hb4
                    obtain ⟨s0, s1⟩ := row_at hr4 Hget.out
                    have P1 := Lib.hid (hr4.set m (.int .i64 ((a' + 1 : Nat) : Int)))
                    have P2 := Lib.hid ((Hel.out.next hb4).far (p := ⟨w.heap.size, m, none⟩) (by show E ≠ w.heap.size; omega) (.int .i64 ((a' + 1 : Nat) : Int)))
                    have P3 := Lib.hid (ownsRow_setCell_below (own_next Hol.out hb4) (a := ⟨w.heap.size, m, none⟩) hgt (.int .i64 ((a' + 1 : Nat) : Int)))
                    have P4 := Lib.hid ((below_chain hbl hb4).setCell (p := ⟨w.heap.size, m, none⟩) (Nat.le_refl _) (.int .i64 ((a' + 1 : Nat) : Int)))
                    have P5 := Nat.le_trans hsl hb4.size
                    clear hr4
                    go_wp2
                    go_roundw
                    case rel => exact ⟨a' + 1, by omega, by omega, (past_step Hx.out).trans hpa, (by have := P1.out; rw [asC_set, List.set_set] at this; exact this), P2.out, P3.out, P4.out, by simpa using P5⟩
                    case measure =>
                      have e1 := asOf_get Hrl.out (by rw [List.length_set, Hml.out]) Hget.out
                      have P1' := P1.out
                      rw [asC_set, List.set_set] at P1'
                      have e2 := asOf_get P1' (by rw [List.length_set, Hml.out]) (show _ = some (a' + 1) by rw [List.getElem?_set_self (by rw [Hml.out]; exact hlt2)])
                      exact lt_past e1 e2 halt
                  · have hxn := ent_ne hxe
                    go_wp2_with fail
                    have hpe : pastM eb l a = a' := hpa.symm.trans (past_stop Hx.out hxe)
                    refine wp_region_below (by kernel_rfl) (by kernel_rfl) ?_
                    repeat (first | go_big_quiet_skip | (go_big_quiet_want; go_big_quiet_op; go_big_quiet_on) | (go_big_quiet_want; go_big_quiet_op; apply Exists.intro; refine ⟨fun x => ?_, ?_⟩; (fail); go_big_quiet_on))
                    refine wpQuiet_nil ?_
                    intro _ hx
                    obtain ⟨⟨w4, hb4⟩, rfl⟩ := hx
                    have hr4 := Hrl.out.next hb4
                    have hmm := mid_set (e := eb) Hpl.out hl ha
                    rw [hpe] at hmm
                    rw [hmm] at hr4
                    have P1 := Lib.hid hr4
                    have P5 := Nat.le_trans hsl hb4.size
                    clear hr4 hmm
                    go_wp2
                    go_roundw
                    case rel => exact ⟨m + 1, by omega, by go_num, P1.out, Hel.out.next hb4, own_next Hol.out hb4, below_chain hbl hb4, P5⟩
                    case measure => simp [intOf]; omega
                · have i2 : ¬ (a' : Int) < l.length := by omega
                  go_wp2_with fail
                  have hpe : pastM eb l a = a' := hpa.symm.trans (past_end (by omega) hal')
                  refine wp_region_below (by kernel_rfl) (by kernel_rfl) ?_
                  repeat (first | go_big_quiet_skip | (go_big_quiet_want; go_big_quiet_op; go_big_quiet_on) | (go_big_quiet_want; go_big_quiet_op; apply Exists.intro; refine ⟨fun x => ?_, ?_⟩; (fail); go_big_quiet_on))
                  refine wpQuiet_nil ?_
                  intro _ hx
                  obtain ⟨⟨w4, hb4⟩, rfl⟩ := hx
                  have hr4 := Hrl.out.next hb4
                  have hmm := mid_set (e := eb) Hpl.out hl ha
                  rw [hpe] at hmm
                  rw [hmm] at hr4
                  have P1 := Lib.hid hr4
                  have P5 := Nat.le_trans hsl hb4.size
                  clear hr4 hmm
                  go_wp2
                  go_roundw
                  case rel => exact ⟨m + 1, by omega, by go_num, P1.out, Hel.out.next hb4, own_next Hol.out hb4, below_chain hbl hb4, P5⟩
                  case measure => simp [intOf]; omega
            · obtain rfl : m = k := by omega
              have j1 : ¬ (m : Int) < m := by omega
              have hrN := Hrj.out
              have e0 := mid_all (e := eb) Hpl.out
              rw [← Hnl.out] at e0
              rw [e0] at hrN
              obtain ⟨hn1, hn2⟩ := Hnext.out
              obtain ⟨s1, s2⟩ := Hstep.out
              rw [← hn1] at s1 s2
              have HT := Lib.hid (s1.symm.trans Hto.out)
              have HS2 := Lib.hid s2
              have HN := Lib.hid hn2
              have HrN := Lib.hid hrN
              have hoE : Ents wj (.slice A0 o.length c0) o := ⟨Reads.of_own Hoj.out, Hoo.out⟩
              have hokn : ∀ e ∈ o ++ [eb], okE e := fun e he => by
                rcases List.mem_append.1 he with h | h
                · exact Hoo.out e h
                · rw [List.mem_singleton.1 h]; exact oeb
              have Hokn := Lib.hid hokn
              have hbjs := hbj.size
              have hwj : w1.heap.size ≤ wj.heap.size := by omega
              clear hrN e0 hn1 hn2 s1 s2 hokn
              obtain ⟨z0, z1, z2⟩ := row3 Hej.out
              clear hj1 hbn hab hab' g1 g2 g3 hlb kh2 kh3 hwE hgE hE3 hbk i1 hlt hk hm hlt2 j1 hmn hc1 hn hbjs hc2 ht
              rcases hgl : o.getLast? with _ | last
              · obtain rfl : o = [] := List.getLast?_eq_none_iff.1 hgl
                have hou : outM [] eb = [] ++ [eb] := rfl
                have Hou := Lib.hid hou
                have Hoj0 := Lib.hid (show wj.ownsRow w1.heap.size 40 3 (.slice A0 0 c0) 0 (entsC []) from Hoj.out)
                clear hou hoE
                go_wp2_with fail
                refine wp_region_below (by kernel_rfl) (by kernel_rfl) ?_
                repeat (first | go_big_quiet_skip | (go_big_quiet_want; go_big_quiet_op; go_big_quiet_on) | (go_big_quiet_want; go_big_quiet_op; apply Exists.intro; refine ⟨fun x => ?_, ?_⟩; (fail); go_big_quiet_on))
                refine wpQuiet_nil ?_
                intro _ hx
                obtain ⟨⟨w4, hb4⟩, rfl⟩ := hx
                rename_i w4
                have hbw4 := below_chain hbj hb4
                have own4 := own_next Hoj0.out hb4
                have row4 := HrN.out.next hb4
                have sz4 := Nat.le_trans hwj hb4.size
                have Hb4 := Lib.hid hbw4
                have Ho4 := Lib.hid own4
                have Hr4 := Lib.hid row4
                clear hbw4 own4 row4
                obtain ⟨y0, y1, y2⟩ := row3 (Hej.out.next hb4)
                go_wp2_with (first
                  | (at_builtin; refine wpList_append_reads _ rfl _ _ 36 rfl w1.heap.size 40 i0 _ 3 24 Try.underlying36 hi0 hz0 hz1 hz2 rfl (by decide) _ 0 _ rfl (own_next Ho4.out (belowLitM _ _)) _ 1 (entsC [eb]) rfl (ents_litM _ eb) (entsC_oneM _) (by unfold maxLen; omega) (by omega) (by simp only [World.size_alloc]; omega) ?_; intro v5 w5 hown5 hg5; obtain ⟨A5, c5, rfl, -, -, -, -⟩ := Reads.of_own hown5))
                have hb5 := (Hb4.out.alloc Hb4.out.size (.cells #[.int .u64 (eb.1 : Nat), .int .i64 eb.2.1, .int .i64 eb.2.2] 40)).grown hg5 (Hb4.out.alloc Hb4.out.size _).size (fun k hk => Nat.le_trans (Nat.le_of_lt hgt) (own_block_ge Ho4.out k hk))
                have hr5 := (Hr4.out.alloc (.cells #[.int .u64 (eb.1 : Nat), .int .i64 eb.2.1, .int .i64 eb.2.2] 40)).grown hg5 (fun h => by have := own_block_ge Ho4.out _ h.symm; omega)
                have hs5 : w1.heap.size ≤ w5.heap.size := by have := hg5.size; simp only [World.size_alloc] at this; omega
                have H5 := Lib.hid (asOf_rowN (n := m) hr5 (by rw [next_len Hpl.out]; exact Hnl.out.symm))
                have H6 := Lib.hid hr5
                have H7 := Lib.hid hb5
                have H8 := Lib.hid hown5
                clear hr5 hb5 hown5
                go_wp2
                go_roundw
                case rel => exact ⟨nextM eb ls ps, outM [] eb, A5, c5, HN.out, by rw [Hou.out]; simp, by rw [Hou.out, entsC_appendM]; simpa using H8.out, H6.out, H7.out, hs5, HT.out, by rw [Hou.out]; exact Hokn.out, by rw [Hou.out, List.length_append]; have := HS2.out; simp only [List.length_singleton]; simp only [List.length_nil] at *; omega⟩
                case measure => (have h6 := HS2.out); (have h7 := Hmw.out); (have h8 := H5.out); rw [h7, h8]; exact h6
              · have hou : ∀ h : last ≠ eb, outM o eb = o ++ [eb] := fun h => by unfold outM; rw [hgl, if_neg (by simpa using h)]
                have hou2 : last = eb → outM o eb = o := fun h => by unfold outM; rw [hgl, if_pos (by rw [h])]
                have hne : o ≠ [] := fun h => by rw [h] at hgl; cases hgl
                have hpos := List.length_pos_iff.2 hne
                obtain ⟨p, hp⟩ : ∃ p, o.length = p + 1 := ⟨o.length - 1, by omega⟩
                rw [List.getLast?_eq_getElem?, hp, Nat.add_sub_cancel] at hgl
                obtain ⟨b0, off0, rfl, hb0, hcc⟩ := hoE.later hpos
                have v1 : IntKind.i64.wrap ((o.length : Int) - 1) = (p : Int) := by rw [IntKind.wrap_i64]; omega
                have v2 : (0 : Int) ≤ (p : Int) := by omega
                have v3 : (p : Int) < o.length := by omega
                have v4 : (0 : Int) < o.length := by omega
                have fo := fun x : Later wj => hcc p last hgl x.it x.ok
                have fe := fun x : Later wj => row3 (Hej.out.next x.ok)
                have fo0 := fun x => (fo x).1
                have fo1 := fun x => (fo x).2.1
                have fo2 := fun x => (fo x).2.2
                have fe0 := fun x => (fe x).1
                have fe1 := fun x => (fe x).2.1
                have fe2 := fun x => (fe x).2.2
                have Hou := Lib.hid hou
                have Hou2 := Lib.hid hou2
                have Hp := Lib.hid hp
                clear fo fe hou hou2 hcc hoE hp
                by_cases hle : last = eb
                · subst hle
                  go_wp2_with fail
                  refine wp_region_below (by kernel_rfl) (by kernel_rfl) ?_
                  repeat (first | go_big_quiet_skip | (go_big_quiet_want; go_big_quiet_op; go_big_quiet_on) | (go_big_quiet_want; go_big_quiet_op; apply Exists.intro; refine ⟨fun x => ?_, ?_⟩; (fail); go_big_quiet_on))
                  refine wpQuiet_nil ?_
                  intro _ hx
                  obtain ⟨⟨w4, hb4⟩, rfl⟩ := hx
                  rename_i w4
                  have hr4 := HrN.out.next hb4
                  have H5 := Lib.hid (asOf_rowN (n := m) hr4 (by rw [next_len Hpl.out]; exact Hnl.out.symm))
                  have H4 := Lib.hid hr4
                  clear hr4
                  go_wp2
                  go_roundw
                  case rel => exact ⟨nextM last ls ps, o, _, c0, HN.out, rfl, own_next Hoj.out hb4, H4.out, below_chain hbj hb4, Nat.le_trans hwj hb4.size, by have := HT.out; rw [Hou2.out trivial] at this; exact this, Hoo.out, by have := HS2.out; omega⟩
                  case measure => (have h6 := HS2.out); (have h7 := Hmw.out); (have h8 := H5.out); rw [h7, h8]; exact h6
                · have hne2 := ent_ne hle
                  go_wp2_with fail
                  refine wp_region_below (by kernel_rfl) (by kernel_rfl) ?_
                  repeat (first | go_big_quiet_skip | (go_big_quiet_want; go_big_quiet_op; go_big_quiet_on) | (go_big_quiet_want; go_big_quiet_op; apply Exists.intro; refine ⟨fun x => ?_, ?_⟩; (fail); go_big_quiet_on))
                  refine wpQuiet_nil ?_
                  intro _ hx
                  obtain ⟨⟨w4, hb4⟩, rfl⟩ := hx
                  rename_i w4
                  have hbw4 := below_chain hbj hb4
                  have own4 := own_next Hoj.out hb4
                  have row4 := HrN.out.next hb4
                  have sz4 := Nat.le_trans hwj hb4.size
                  have Hb4 := Lib.hid hbw4
                  have Ho4 := Lib.hid own4
                  have Hr4 := Lib.hid row4
                  clear hbw4 own4 row4
                  obtain ⟨y0, y1, y2⟩ := row3 (Hej.out.next hb4)
                  go_wp2_with (first
                    | (at_builtin; refine wpList_append_reads _ rfl _ _ 36 rfl w1.heap.size 40 i0 _ 3 24 Try.underlying36 hi0 hz0 hz1 hz2 rfl (by decide) _ o.length _ rfl (own_next Ho4.out (belowLitM _ _)) _ 1 (entsC [eb]) rfl (ents_litM _ eb) (entsC_oneM _) (by unfold maxLen; omega) (by omega) (by simp only [World.size_alloc]; omega) ?_; intro v5 w5 hown5 hg5; obtain ⟨A5, c5, rfl, -, -, -, -⟩ := Reads.of_own hown5))
                  have hb5 := (Hb4.out.alloc Hb4.out.size (.cells #[.int .u64 (eb.1 : Nat), .int .i64 eb.2.1, .int .i64 eb.2.2] 40)).grown hg5 (Hb4.out.alloc Hb4.out.size _).size (fun k hk => Nat.le_trans (Nat.le_of_lt hgt) (own_block_ge Ho4.out k hk))
                  have hr5 := (Hr4.out.alloc (.cells #[.int .u64 (eb.1 : Nat), .int .i64 eb.2.1, .int .i64 eb.2.2] 40)).grown hg5 (fun h => by have := own_block_ge Ho4.out _ h.symm; omega)
                  have hs5 : w1.heap.size ≤ w5.heap.size := by have := hg5.size; simp only [World.size_alloc] at this; omega
                  have H5 := Lib.hid (asOf_rowN (n := m) hr5 (by rw [next_len Hpl.out]; exact Hnl.out.symm))
                  have H6 := Lib.hid hr5
                  have H7 := Lib.hid hb5
                  have H8 := Lib.hid hown5
                  clear hr5 hb5 hown5
                  go_wp2
                  go_roundw
                  case rel => exact ⟨nextM eb ls ps, outM o eb, A5, c5, HN.out, by rw [Hou.out hle]; simp, by rw [Hou.out hle, entsC_appendM]; simpa using H8.out, H6.out, H7.out, hs5, HT.out, by rw [Hou.out hle]; exact Hokn.out, by rw [Hou.out hle, List.length_append]; have := HS2.out; simp only [List.length_singleton]; omega⟩
                  case measure => (have h6 := HS2.out); (have h7 := Hmw.out); (have h8 := H5.out); rw [h7, h8]; exact h6
end Go.Proofs.Ytigjjggkcagkmaa
