/-
  MEMTABLE: the document's table: entries as they came.
-/
import Derived.Test.YtikodobglhjoiaaTabAdd
import Derived.Test.YtikodobglhjoiaaAppAt
import Derived.Test.YtikodobglhjoiaaEntSort
namespace Go.Proofs.Ytikodobglhjoiaa
open Go.RowKit
set_option linter.unusedVariables false

def RTabV (w : World) (base g : Nat) (v : Value) (L : List Ent) : Prop := Row w g 51 [v] ∧ w.ownsRow base 25 3 v L.length (entsC L) ∧ (∀ e ∈ L, okE e)
theorem RTabV.next {w w' : World} {base g : Nat} {v : Value} {l : List Ent} (h : RTabV w base g v l) (hb : Below w.heap.size w w') : RTabV w' base g v l := ⟨h.1.next hb, own_next h.2.1 hb, h.2.2⟩
theorem RTabV.ents {w : World} {base g : Nat} {v : Value} {l : List Ent} (h : RTabV w base g v l) : Ents w v l := ⟨Reads.of_own h.2.1, h.2.2⟩
/-- A row's block is not one of another type. -/
theorem own_other {w : World} {base n size g : Nat} {e t : TypeId} {v : Value} {xs ys : List Value} (h : w.ownsRow base e size v n xs) (hr : Row w g t ys) (hne : e ≠ t) : ∀ k, v.ownBlock = some k → k ≠ g := by
  intro k hk he
  subst he
  obtain ⟨C, fr, hg, -⟩ := hr
  rcases h.2 with ⟨rfl, _⟩ | ⟨g', cap, cur, rfl, _, hgg, _⟩
  · simp [Value.ownBlock] at hk
  · simp [Value.ownBlock] at hk
    subst hk
    rw [hg] at hgg
    simp at hgg
    exact hne hgg.2.1.symm
/-- Two blocks alone may have turned. -/
structure Keep2 (w w' : World) (g : Nat) (b : Option Nat) : Prop where
  os : w'.os = w.os
  tape : w'.tape = w.tape
  output : w'.output = w.output
  size : w.heap.size ≤ w'.heap.size
  block : ∀ k, k < w.heap.size → k ≠ g → some k ≠ b → w'.heap[k]? = w.heap[k]?
theorem Keep2.of_below {w w' : World} (h : Below w.heap.size w w') (g : Nat) (b : Option Nat) : Keep2 w w' g b := ⟨h.os, h.tape, h.output, h.size, fun k hk _ _ => h.block k hk⟩
theorem Keep2.trans {a b c : World} {g : Nat} {o : Option Nat} (h1 : Keep2 a b g o) (h2 : Keep2 b c g o) : Keep2 a c g o :=
  ⟨h2.os.trans h1.os, h2.tape.trans h1.tape, h2.output.trans h1.output, Nat.le_trans h1.size h2.size, fun k hk hg hb => (h2.block k (Nat.lt_of_lt_of_le hk h1.size) hg hb).trans (h1.block k hk hg hb)⟩
theorem Keep2.of_grown {w w' : World} {r : Option Nat} (h : w.grownBy w' r) (g : Nat) : Keep2 w w' g r := ⟨h.os, h.tape, h.output, h.size, fun k hk _ hb => h.block k hk hb⟩
theorem Keep2.of_set {w : World} {g : Nat} (j : Nat) (v : Value) (b : Option Nat) : Keep2 w (w.setCell ⟨g, j, none⟩ v) g b := by
  have h := grown_set w ⟨g, j, none⟩ v
  exact ⟨h.os, h.tape, h.output, h.size, fun k hk hg _ => h.block k hk (by simpa using hg)⟩
theorem Keep2.below {B : Nat} {w w' : World} {g : Nat} {b : Option Nat} (h : Keep2 w w' g b) (hB : B ≤ w.heap.size) (hg : B ≤ g) (hb : ∀ k, b = some k → B ≤ k) : Below B w w' :=
  ⟨h.os, h.tape, h.output, h.size, fun k hk => h.block k (Nat.lt_of_lt_of_le hk hB) (by omega) (fun h => by have := hb k h.symm; omega)⟩
theorem below_chain' {B : Nat} {a b c : World} {g : Nat} {o : Option Nat} (h : Below B a b) (hk : Keep2 b c g o) (hB : B ≤ b.heap.size) (hg : B ≤ g) (ho : ∀ k, o = some k → B ≤ k) : Below B a c :=
  ⟨hk.os.trans h.os, hk.tape.trans h.tape, hk.output.trans h.output, Nat.le_trans h.size hk.size, fun k hlt => (hk.block k (Nat.lt_of_lt_of_le hlt hB) (by omega) (fun h9 => by have := ho k h9.symm; omega)).trans (h.block k hlt)⟩
theorem own_keepR {w w' : World} {base n size : Nat} {e : TypeId} {v : Value} {xs : List Value} (h : w.ownsRow base e size v n xs) (hb : ∀ k, v.ownBlock = some k → w'.heap[k]? = w.heap[k]?) : w'.ownsRow base e size v n xs := by
  refine ⟨h.1, ?_⟩
  rcases h.2 with hn | ⟨g', cap, cur, rfl, hbs, hgg, rest⟩
  · exact .inl hn
  · exact .inr ⟨g', cap, cur, rfl, hbs, (hb g' (by simp [Value.ownBlock])).trans hgg, rest⟩
theorem types_neR : (25 : TypeId) ≠ 51 := by decide
def addL (L : List Ent) (e : Ent) : List Ent := if e ∈ L then L else L ++ [e]

theorem r_Dump {w : World} {base g : Nat} {v : Value} {l : List Ent} (h : RTabV w base g v l) (hn : l.length ≤ 1000000000) :
    Calls Try.prog 36 #[.pointer (some ⟨g, 0, none⟩)] w fun e w' => ∃ v', e = .returned v' ∧ w'.ownsRow w.heap.size 25 3 v' (sortE l).length (entsC (sortE l)) ∧ Below w.heap.size w w' := by
  have c0 := h.1.cell 0 (by simp)
  simp only [List.getElem_cons_zero] at c0
  have he := h.ents
  go_enter Try.func36, Try.ntmps36
  go_wp2_with fail
  refine (ref_Sort _ l _ he hn).mono ?_
  rintro e w2 ⟨v', rfl, hown, hb⟩
  go_wp2
  go_ret
  exact ⟨_, rfl, hown, hb⟩
set_option maxHeartbeats 4000000 in
theorem r_Add {w : World} {base g : Nat} {v : Value} {L : List Ent} (h : RTabV w base g v L) (e : Ent) (he : okE e) (hn : L.length ≤ 1000000) (hbase : base ≤ w.heap.size) :
    Calls Try.prog 40 #[.pointer (some ⟨g, 0, none⟩), .agg (entC e)] w fun r w' => r = .returned (.bool (!decide (e ∈ L))) ∧ ∃ v', RTabV w' base g v' (addL L e) ∧ Keep2 w w' g v.ownBlock ∧ (v'.ownBlock = v.ownBlock ∨ ∀ k, v'.ownBlock = some k → w.heap.size ≤ k) := by
  have hz := below_lit w (.cells (entC e) 25)
  have h1 := h.next hz
  have hbox := fun w' hb => ent_box w e 25 w' hb
  have hgb : w.heap.size ≠ g := Nat.ne_of_gt h.1.lt
  obtain ⟨i0, hi0, hz0, hz1, hz2⟩ := info_parts infoEnt
  have hE := h1.ents
  obtain ⟨⟨A, c, hv, hc1, hc2, -, -⟩, -⟩ := id hE
  unfold maxLen at hc2
  obtain ⟨n, hN⟩ : ∃ n, n = L.length := ⟨_, rfl⟩
  rw [← hN] at hn hv hc1
  subst hv
  have HN := Lib.hid hN.symm
  have HE := Lib.hid hE
  have HR := Lib.hid h1.1
  have H0 := Lib.hid h
  have H1 := Lib.hid h1
  obtain ⟨x1, x2, x3⟩ := e
  have oe := he
  have HB := Lib.hid hbox
  have hcell := fun w' (hb : Below (w.alloc (.cells (entC (x1, x2, x3)) 25)).heap.size (w.alloc (.cells (entC (x1, x2, x3)) 25)) w') => (HR.out.next hb).cell 0 (by simp)
  simp only [List.getElem_cons_zero] at hcell
  have HC := Lib.hid hcell
  clear hbox hE h hN h1 hcell
  go_enter Try.func40, Try.ntmps40
  go_wp2_with fail
  go_loopw [5] (fun i wr => ∃ j : Nat, j ≤ n ∧ i = .int .i64 (j : Int) ∧ (x1, x2, x3) ∉ L.take j ∧ Below (w.alloc (.cells (entC (x1, x2, x3)) 25)).heap.size (w.alloc (.cells (entC (x1, x2, x3)) 25)) wr) (fun i _ => n - (intOf i).toNat)
  case atStart => exact ⟨0, Nat.zero_le _, rfl, by simp, Below.refl _ _⟩
  case round =>
    obtain ⟨j, hj, rfl, hnot, hbr⟩ := hrel
    have Hnot := Lib.hid hnot
    have f0 := HC.out wr hbr
    clear hnot
    by_cases hjn : j < n
    · have i1 : (j : Int) < n := by omega
      obtain ⟨y, hy⟩ : ∃ y, L[j]? = some y := ⟨_, List.getElem?_eq_getElem (by have := HN.out; omega)⟩
      obtain ⟨b, off, rfl, hblt, hcc⟩ := HE.out.later (by have := HN.out; omega)
      have f1 := fun x : Later wr => HC.out x.it (below_chain hbr x.ok)
      have ca := fun x : Later wr => hcc j y hy x.it (below_chain hbr x.ok)
      have ca0 := fun x => (ca x).1
      have ca1 := fun x => (ca x).2.1
      have ca2 := fun x => (ca x).2.2
      have cb := fun x : Later wr => HB.out x.it (below_chain hbr x.ok)
      have cb0 := fun x => (cb x).1
      have cb1 := fun x => (cb x).2.1
      have cb2 := fun x => (cb x).2.2
      have Hy := Lib.hid hy
      clear ca cb hcc hy
      by_cases hye : y = (x1, x2, x3)
      · subst hye
        go_wp2_with fail
        refine wp_region_below (by kernel_rfl) (by kernel_rfl) ?_
        repeat (first | go_big_quiet_skip | (go_big_quiet_want; go_big_quiet_op; go_big_quiet_on) | (go_big_quiet_want; go_big_quiet_op; apply Exists.intro; refine ⟨fun x => ?_, ?_⟩; (fail); go_big_quiet_on))
        refine wpQuiet_nil ?_
        intro _ hx
        obtain ⟨⟨w2, hb2⟩, rfl⟩ := hx
        have hmem : (x1, x2, x3) ∈ L := List.mem_of_getElem? Hy.out
        have hk := below_chain hz (below_chain hbr hb2)
        go_wp2
        go_ret
        refine ⟨by simp [hmem], _, ?_, Keep2.of_below hk _ _, .inl rfl⟩
        unfold addL
        rw [if_pos hmem]
        exact H0.out.next hk
      · obtain ⟨y1, y2, y3⟩ := y
        have hne : decide (y1 = x1 ∧ y2 = x2 ∧ y3 = x3) = false := by
          rw [decide_eq_false_iff_not]
          rintro ⟨rfl, rfl, rfl⟩
          exact hye rfl
        have Hye := Lib.hid hye
        clear hye
        go_wp2_with fail
        refine wp_region_below (by kernel_rfl) (by kernel_rfl) ?_
        repeat (first | go_big_quiet_skip | (go_big_quiet_want; go_big_quiet_op; go_big_quiet_on) | (go_big_quiet_want; go_big_quiet_op; apply Exists.intro; refine ⟨fun x => ?_, ?_⟩; (fail); go_big_quiet_on))
        refine wpQuiet_nil ?_
        intro _ hx
        obtain ⟨⟨w2, hb2⟩, rfl⟩ := hx
        go_wp2
        go_roundw
        case rel =>
          refine ⟨j + 1, by omega, by go_num, ?_, below_chain hbr hb2⟩
          rw [List.take_add_one, Hy.out]
          intro hm
          rcases List.mem_append.1 hm with hm | hm
          · exact Hnot.out hm
          · simp at hm; exact Hye.out (by rw [hm.1, hm.2.1, hm.2.2])
        case measure => simp [intOf]; omega
    · obtain rfl : j = n := by omega
      have i1 : ¬ (j : Int) < j := by omega
      have hnm : (x1, x2, x3) ∉ L := by
        have := Hnot.out
        rwa [List.take_of_length_le (by rw [HN.out]; exact Nat.le_refl _)] at this
      have Hnm := Lib.hid hnm
      have hws : w.heap.size < wr.heap.size := Nat.lt_of_lt_of_le (lit_lt w _) hbr.size
      have Hr := Lib.hid (H1.out.next hbr)
      have HF := Lib.hid (fun w' (hb : Below wr.heap.size wr w') => (Hr.out.1.next hb).frozen 0 (by simp))
      have HG := Lib.hid (fun w' (hb : Below wr.heap.size wr w') => HC.out w' (below_chain hbr hb))
      have HX := Lib.hid (fun w' (hb : Below wr.heap.size wr w') => HB.out w' (below_chain hbr hb))
      have D0 : Below wr.heap.size wr wr.drew := (Below.refl _ _).drew
      have D1 : Below wr.heap.size wr (wr.alloc (.cells #[.int .u64 (x1 : Nat), .int .i64 x2, .int .i64 x3] 25)) := below_lit wr _
      have t0 := HG.out _ D0
      obtain ⟨b0, b1, b2⟩ := HX.out _ D0
      have l0 := HG.out _ D1
      clear hnm
      have hj := own_count Hr.out.2.1 HN.out.symm
      have HJ := Lib.hid hj
      have hno := fun k hk => own_other Hr.out.2.1 Hr.out.1 types_neR k hk
      have Hno := Lib.hid hno
      clear hj hno
      go_wp2_with fail
      go_region_law (refine step_append_at rfl _ _ 22 rfl base 25 i0 _ 3 24 Try.underlying22 hi0 hz0 hz1 hz2 rfl (by decide) (.slice A j c) j (entsC L) rfl (own_next HJ.out (by first | exact D1.drew | exact D1 | exact D0.alloc D0.size _)) _ 1 (entsC [(x1, x2, x3)]) rfl (by first | exact (ents_lit _ _ oe).1 | exact Reads.drew' (ents_lit _ _ oe).1) (entsC_one _) (by unfold maxLen; omega) (by omega) (Nat.le_trans (by omega : base ≤ wr.heap.size) (Below.size (B := wr.heap.size) (w := wr) (by first | exact D1.drew | exact D1 | exact D0.alloc D0.size _))) ?_; intro v2 w2 hown2 hg2 hat2; obtain ⟨A2, cap2, rfl, -, -, -, -⟩ := Reads.of_own hown2; have hr2 := (Hr.out.1.next (w' := _) (by first | exact D1.drew | exact D1 | exact D0.alloc D0.size _)).grown hg2 (fun h => Hno.out g h.symm rfl); have c2' := hr2.cell 0 (by simp); have f2' := hr2.frozen 0 (by simp); have D2 := (Below.size (B := wr.heap.size) (w := wr) (by first | exact D1.drew | exact D1 | exact D0.alloc D0.size _)); have K2 := Keep2.trans (Keep2.of_below (below_chain hz (below_chain hbr (by first | exact D1.drew | exact D1 | exact D0.alloc D0.size _))) g (Value.slice A j c).ownBlock) (Keep2.of_grown hg2 g))
      all_goals
        have Hr2 := Lib.hid hr2
        have Hown2 := Lib.hid hown2
        have HK2 := Lib.hid K2
        simp only [List.getElem_cons_zero] at c2'
        clear hr2 hown2 K2
        go_wp2
        go_ret
        refine ⟨by simp [Hnm.out], .slice A2 (j + 1) cap2, ?_, Keep2.trans HK2.out (Keep2.of_set 0 _ _), ?_⟩
        · unfold addL
          rw [if_neg Hnm.out]
          refine ⟨Hr2.out.set 0 _, own_keepR ?_ (fun k hk => Below.heap_setCell _ _ _ _ (own_other Hown2.out Hr2.out types_neR k hk)), fun x hx => ?_⟩
          · rw [List.length_append, HN.out, entsC_append]
            exact Hown2.out
          · rcases List.mem_append.1 hx with hx | hx
            · exact H0.out.2.2 x hx
            · rw [List.mem_singleton.1 hx]; exact oe
        · rcases hat2 with h9 | h9
          · exact .inl h9
          · refine .inr fun k hk => ?_
            rw [h9] at hk
            cases hk
            exact Nat.le_trans (Nat.le_of_lt hws) D2
end Go.Proofs.Ytikodobglhjoiaa
