/-
  ENTRIES: those of a hash in a range of versions.
-/
import Derived.Test.YtikodobglhjoiaaEntSearch
import Derived.Test.YtikodobglhjoiaaAppFull
import Derived.Lib.SliceRun
namespace Go.Proofs.Ytikodobglhjoiaa
open Go.RowKit
set_option linter.unusedVariables false

theorem infoEnt : (Try.prog.info? 25).map (fun i => (i.zero, i.size, i.bytes)) = some (some (.agg #[.int .u64 0, .int .i64 0, .int .i64 0]), 3, 24) := by kernel_rfl
theorem entL_one (e : Ent) : ∀ u ∈ entL e, u.oneCell' = true := by
  intro u hu
  simp only [entL, List.mem_cons, List.not_mem_nil, or_false] at hu
  rcases hu with rfl | rfl | rfl <;> rfl
theorem entsC_one (l : List Ent) : ∀ u ∈ entsC l, u.oneCell' = true := by
  intro u hu
  obtain ⟨e, _, he⟩ := List.mem_flatMap.1 hu
  exact entL_one e u he
theorem entsC_append (a b : List Ent) : entsC (a ++ b) = entsC a ++ entsC b := List.flatMap_append
theorem entsC_cons (e : Ent) (l : List Ent) : entsC (e :: l) = entL e ++ entsC l := by simp [entsC]
theorem length_entL (e : Ent) : (entL e).length = 3 := rfl
theorem entsC_take (l : List Ent) (k : Nat) : entsC (l.take k) = (entsC l).take (k * 3) := by
  induction l generalizing k with
  | nil => simp [entsC]
  | cons e l ih =>
    cases k with
    | zero => simp [entsC]
    | succ k =>
      rw [List.take_succ_cons, entsC_cons, entsC_cons, ih k, show (k + 1) * 3 = (entL e).length + k * 3 from by rw [length_entL]; omega, List.take_length_add_append]
theorem entsC_drop (l : List Ent) (k : Nat) : entsC (l.drop k) = (entsC l).drop (k * 3) := by
  induction l generalizing k with
  | nil => simp [entsC]
  | cons e l ih =>
    cases k with
    | zero => simp
    | succ k =>
      rw [List.drop_succ_cons, entsC_cons, ih k, show (k + 1) * 3 = (entL e).length + k * 3 from by rw [length_entL]; omega, List.drop_length_add_append]
@[go_sem] theorem ents_isNil (w : World) (a : Option Addr) (n c : Nat) : (binOp .eql 22 (.slice a n c) (.slice none 0 0)).run Try.prog w = .ok (.bool a.isNone) w :=
  Lib.run_eql_slice_nil w _ _ a n c 0 0 Try.underlying22
theorem below_lit (w : World) (o : Obj) : Below w.heap.size w (w.alloc o) := (Below.refl _ _).alloc (Nat.le_refl _) _
theorem own_base {w : World} {base base' size n : Nat} {e : TypeId} {v : Value} {xs : List Value} (h : w.ownsRow base e size v n xs) (hb : base' ≤ base) : w.ownsRow base' e size v n xs := by
  refine ⟨h.1, ?_⟩
  rcases h.2 with hn | ⟨g, cap, cur, rfl, hbs, rest⟩
  · exact .inl hn
  · exact .inr ⟨g, cap, cur, rfl, Nat.le_trans hb hbs, rest⟩
/-- One entry, boxed into a slice of its own. -/
theorem ents_lit (w : World) (e : Ent) (he : okE e) : Ents (w.alloc (.cells (entC e) 25)) (.slice (some ⟨w.heap.size, 0, none⟩) 1 1) [e] := by
  refine ⟨?_, fun x hx => by rw [List.mem_singleton.1 hx]; exact he⟩
  have := Reads.of_row (size := 3) (n := 1) (cap := 1) (Row.new w (entC e) 25) rfl (Nat.le_refl _) (by unfold maxLen; omega)
  simpa [entC, entsC, entL] using this
/-- A part of a slice. -/
theorem Ents.sliced {w : World} {A : Option Addr} {n c : Nat} {l : List Ent} (h : Ents w (.slice A n c) l) (lo hi m : Nat) (h1 : lo ≤ hi) (h2 : hi ≤ l.length) (h3 : hi ≤ m) (h4 : m ≤ c) : Ents w (Go.sliced A lo hi m 3) ((l.drop lo).take (hi - lo)) := by
  obtain ⟨⟨A', c', hv, hn1, hn2, hlen, hcell⟩, hok⟩ := h
  obtain ⟨rfl, rfl, rfl⟩ := Value.slice.inj hv
  refine ⟨?_, fun e he => hok e (List.mem_of_mem_drop (List.mem_of_mem_take he))⟩
  have e1 : ((l.drop lo).take (hi - lo)).length = hi - lo := by simp; omega
  rw [e1]
  refine ⟨_, m - lo, rfl, by omega, by omega, by simp [e1], fun h0 => ?_⟩
  obtain ⟨b, off, rfl, hlt, hc⟩ := hcell (by omega)
  refine ⟨b, off + lo * 3, ?_, hlt, fun j hj => ?_⟩
  · rw [if_neg (by omega)]; simp [Addr.add]
  · have hj' : j < (hi - lo) * 3 := by simpa [e1] using hj
    have := hc (lo * 3 + j) (by simp; omega)
    rw [Nat.add_assoc, this]
    congr 1
    simp only [entsC_take, entsC_drop]
    rw [List.getElem_take, List.getElem_drop]
theorem sliced_slice (A : Option Addr) (lo hi m s : Nat) : ∃ A', Go.sliced A lo hi m s = .slice A' (hi - lo) (m - lo) := ⟨_, rfl⟩

set_option maxHeartbeats 400000 in
theorem slices_Clone (v : Value) (l : List Ent) (w : World) (hl : Ents w v l) (hn : l.length ≤ 1000000000) :
    Calls Try.prog 52 #[v] w fun e w' => ∃ v', e = .returned v' ∧ w'.ownsRow w.heap.size 25 3 v' l.length (entsC l) ∧ Below w.heap.size w w' := by
  obtain ⟨⟨A, c, rfl, h1, h2, h3, h4⟩, -⟩ := id hl
  obtain ⟨i0, hi0, hz0, hz1, hz2⟩ := info_parts infoEnt
  rcases A with _ | A
  · have hl0 : l.length = 0 := by
      rcases Nat.eq_zero_or_pos l.length with h | h
      · exact h
      · obtain ⟨b, off, h, _⟩ := h4 h; cases h
    obtain rfl := List.eq_nil_of_length_eq_zero hl0
    go_enter Try.func52, Try.ntmps52
    go_wp2
    go_ret
    exact ⟨_, rfl, World.ownsRow_nil _ _ _ _, Below.refl _ _⟩
  · go_enter Try.func52, Try.ntmps52
    have hown0 : (w.alloc (.cells #[] 25)).ownsRow w.heap.size 25 3 (.slice (some ⟨w.heap.size, 0, none⟩) 0 0) 0 [] := World.ownsRow_lit w #[] 0 (Nat.le_refl _) (by unfold maxLen; omega) rfl
    have hb0 := below_lit w (.cells #[] 25)
    have hr0 := hl.1.next hb0
    unfold maxLen at h2
    go_wp2_with (first
      | (at_builtin; refine wpList_append_reads _ rfl _ _ 22 rfl w.heap.size 25 i0 _ 3 24 Try.underlying22 hi0 hz0 hz1 hz2 rfl (by decide) (.slice (some ⟨w.heap.size, 0, none⟩) 0 0) 0 [] rfl hown0 _ _ _ rfl hr0 (entsC_one _) (by unfold maxLen; omega) (by omega) hb0.size ?_; intro v3 w3 hown3 hg3))
    go_ret
    refine ⟨_, rfl, by simpa using hown3, hb0.grown hg3 hb0.size (own_block_ge hown0)⟩

set_option maxHeartbeats 1000000 in
theorem entries_Range (v : Value) (l : List Ent) (h : Nat) (f t : Int) (w : World) (hl : Ents w v l) (hs : sortedE l = true) (hn : l.length ≤ 1000000000) (hh : h < 18446744073709551616)
    (hf : -9223372036854775808 ≤ f ∧ f ≤ 9223372036854775807) (ht : -9223372036854775808 ≤ t ∧ t ≤ 9223372036854775807) :
    Calls Try.prog 16 #[v, .int .u64 h, .int .i64 f, .int .i64 t] w fun e w' => ∃ v', e = .returned v' ∧ w'.ownsRow w.heap.size 25 3 v' (rangeE l h f t).length (entsC (rangeE l h f t)) ∧ Below w.heap.size w w' := by
  obtain ⟨⟨A, c, rfl, -, -, -, -⟩, -⟩ := id hl
  obtain ⟨-, h1, h2, -⟩ := hl.cells
  unfold maxLen at h2
  have hle := searchE_le l h f
  have hre := fun m => rangeE_eq (m := m) (t := t) hs (h := h) (f := f)
  obtain ⟨n, hn'⟩ : ∃ n, n = l.length := ⟨_, rfl⟩
  rw [← hn'] at h1 hn hl ⊢
  have Hl := Lib.hid hl
  have Hn := Lib.hid hn'
  have Hre := Lib.hid hre
  clear hre hl
  rw [← hn'] at hle
  clear hn'
  go_enter Try.func16, Try.ntmps16
  go_wp2_with fail
  refine (entries_Search _ l h f _ Hl.out hs hh hf).mono ?_
  rintro e w1 ⟨rfl, hb1⟩
  obtain ⟨s, hs'⟩ : ∃ s, s = searchE l h f := ⟨_, rfl⟩
  rw [← hs'] at hle ⊢
  have Hs := Lib.hid hs'
  clear hs'
  go_wp2_with fail
  go_loopw [10] (fun i wr => ∃ m : Nat, s ≤ m ∧ m ≤ n ∧ i = .int .i64 (m : Int) ∧ (∀ i, (hi : i < l.length) → s ≤ i → i < m → uptoE h t l[i] = true) ∧ Below w.heap.size w wr) (fun i _ => n - (intOf i).toNat)
  case atStart => exact ⟨s, by omega, by omega, rfl, fun i _ h1 h2 => absurd h1 (by omega), hb1⟩
  case round =>
    obtain ⟨m, hm1, hm2, rfl, hp, hbr⟩ := hrel
    have Hp := Lib.hid hp
    clear hp
    -- the end, from here
    have fin : ((hm : m < l.length) → uptoE h t l[m] = false) → Ents w (Go.sliced A s m c 3) (rangeE l h f t) := fun h3 => by
      have hx := Hre.out m (by rw [← Hs.out]; omega) (by rw [← Hn.out]; omega) (by rw [← Hs.out]; exact Hp.out) h3
      rw [hx, ← Hs.out]
      exact Ents.sliced Hl.out s m c hm1 (by rw [← Hn.out]; omega) (by omega) (Nat.le_refl _)
    have Fin := Lib.hid fin
    clear fin
    have s1 : (s : Int) ≤ m := by omega
    have s2 : (m : Int) ≤ c := by omega
    by_cases hlt : m < n
    · have i1 : (m : Int) < n := by omega
      obtain ⟨e, he⟩ : ∃ e, l[m]? = some e := ⟨_, List.getElem?_eq_getElem (by rw [← Hn.out]; omega)⟩
      obtain ⟨b, off, rfl, hlt0, hcell⟩ := Ents.later Hl.out (by rw [← Hn.out]; omega)
      obtain ⟨c0, c1, -⟩ := hcell m e he wr hbr
      have e1 := List.getElem?_eq_some_iff.1 he
      have hoe := Hl.out.ok he
      obtain ⟨x1, x2, x3⟩ := e
      obtain ⟨o1, o2, o3⟩ := hoe
      simp only [] at c0 c1 o1 o2
      have E1 := Lib.hid e1
      clear he hcell e1
      by_cases g1 : x1 = h
      · subst g1
        by_cases g2 : x2 ≤ t
        · go_wp2
          go_roundw
          case rel =>
            refine ⟨m + 1, by omega, by omega, by go_num, fun i hi h5 h6 => ?_, hbr⟩
            rcases Nat.lt_or_ge i m with h7 | h7
            · exact Hp.out i hi h5 h7
            · obtain rfl : i = m := by omega
              rw [E1.out.2]; simp [uptoE, g2]
          case measure => simp [intOf]; omega
        · have hfin := Fin.out (fun _ => by rw [E1.out.2]; simp [uptoE]; omega)
          have hcs : c ≠ s := by omega
          go_wp2_with fail
          refine (slices_Clone _ (rangeE l x1 f t) _ (by have := hfin.next hbr; simpa [Go.sliced, Addr.add_lit, hcs] using this) (by have := List.length_filter_le (inE x1 f t) l; unfold rangeE; have := Hn.out; omega)).mono ?_
          rintro e w2 ⟨v', rfl, hown, hb2⟩
          go_wp2
          go_ret
          exact ⟨_, rfl, own_base hown hbr.size, below_chain hbr hb2⟩
      · have g1' : ¬ (x1 : Int) = h := by omega
        have hfin := Fin.out (fun _ => by rw [E1.out.2]; simp [uptoE, g1])
        have hcs : c ≠ s := by omega
        go_wp2_with fail
        refine (slices_Clone _ (rangeE l h f t) _ (by have := hfin.next hbr; simpa [Go.sliced, Addr.add_lit, hcs] using this) (by have := List.length_filter_le (inE h f t) l; unfold rangeE; have := Hn.out; omega)).mono ?_
        rintro e w2 ⟨v', rfl, hown, hb2⟩
        go_wp2
        go_ret
        exact ⟨_, rfl, own_base hown hbr.size, below_chain hbr hb2⟩
    · have i1 : ¬ (m : Int) < n := by omega
      have hfin := Fin.out (fun hm => absurd hm (by rw [← Hn.out]; omega))
      by_cases hcs : c = s
      · go_wp2_with fail
        refine (slices_Clone _ (rangeE l h f t) _ (by have := hfin.next hbr; simpa [Go.sliced, Addr.add, hcs] using this) (by have := List.length_filter_le (inE h f t) l; unfold rangeE; have := Hn.out; omega)).mono ?_
        rintro e w2 ⟨v', rfl, hown, hb2⟩
        go_wp2
        go_ret
        exact ⟨_, rfl, own_base hown hbr.size, below_chain hbr hb2⟩
      · go_wp2_with fail
        refine (slices_Clone _ (rangeE l h f t) _ (by have := hfin.next hbr; simpa [Go.sliced, Addr.add, hcs] using this) (by have := List.length_filter_le (inE h f t) l; unfold rangeE; have := Hn.out; omega)).mono ?_
        rintro e w2 ⟨v', rfl, hown, hb2⟩
        go_wp2
        go_ret
        exact ⟨_, rfl, own_base hown hbr.size, below_chain hbr hb2⟩
end Go.Proofs.Ytikodobglhjoiaa
