/-
  ENTRIES, the reference's: Range and Last.
-/
import Derived.Test.YtikodobglhjoiaaEntRefS
import Derived.Test.YtikodobglhjoiaaEntLast
namespace Go.Proofs.Ytikodobglhjoiaa
open Go.RowKit
set_option linter.unusedVariables false

theorem rangeE_take_succ {l : List Ent} {k : Nat} {e : Ent} {h : Nat} {f t : Int} (he : l[k]? = some e) : rangeE (l.take (k + 1)) h f t = rangeE (l.take k) h f t ++ [e].filter (inE h f t) := filter_take_succ he
theorem rangeE_length (l : List Ent) (h : Nat) (f t : Int) : (rangeE l h f t).length ≤ l.length := List.length_filter_le _ _
set_option maxHeartbeats 1000000 in
theorem ref_Range (v : Value) (l : List Ent) (h : Nat) (f t : Int) (w : World) (hl : Ents w v l) (hn : l.length ≤ 1000000000) (hh : h < 18446744073709551616)
    (hf : -9223372036854775808 ≤ f ∧ f ≤ 9223372036854775807) (ht : -9223372036854775808 ≤ t ∧ t ≤ 9223372036854775807) :
    Calls Try.prog 22 #[v, .int .u64 h, .int .i64 f, .int .i64 t] w fun e w' => ∃ v', e = .returned v' ∧ w'.ownsRow w.heap.size 25 3 v' (rangeE l h f t).length (entsC (rangeE l h f t)) ∧ Below w.heap.size w w' := by
  obtain ⟨⟨A, c, rfl, -, -, -, -⟩, -⟩ := id hl
  obtain ⟨-, h1, h2, -⟩ := hl.cells
  unfold maxLen at h2
  obtain ⟨i0, hi0, hz0, hz1, hz2⟩ := info_parts infoEnt
  have hok := fun (i : Nat) (e : Ent) (hi : l[i]? = some e) => hl.ok hi
  have hcell := fun h0 => hl.later h0
  obtain ⟨n, hn'⟩ : ∃ n, n = l.length := ⟨_, rfl⟩
  rw [← hn'] at h1 hn
  rw [← hn'] at hl ⊢
  have Hn := Lib.hid hn'
  have Hok := Lib.hid hok
  have Hcell := Lib.hid hcell
  clear hok hcell hn' hl
  go_enter Try.func22, Try.ntmps22
  go_wp2_with fail
  go_loopw [9, 10] (fun o i wr => ∃ k m : Nat, k ≤ n ∧ m ≤ k ∧ i = .int .i64 (k : Int) ∧ wr.ownsRow w.heap.size 25 3 o m (entsC (rangeE (l.take k) h f t)) ∧ (rangeE (l.take k) h f t).length = m ∧ Below w.heap.size w wr) (fun _ i _ => n - (intOf i).toNat)
  case atStart => exact ⟨0, 0, by omega, by omega, rfl, World.ownsRow_nil _ _ _ _, rfl, Below.refl _ _⟩
  case round =>
    obtain ⟨k, m, hk, hm, rfl, hown, hp, hbr⟩ := hrel
    have Hp := Lib.hid hp
    have Hown := Lib.hid hown
    clear hp hown
    by_cases hlt : k < n
    · obtain ⟨e, he⟩ : ∃ e, l[k]? = some e := ⟨_, List.getElem?_eq_getElem (by have := Hn.out; omega)⟩
      have oe := Hok.out k e he
      have hst := rangeE_take_succ (h := h) (f := f) (t := t) he
      obtain ⟨b, off, rfl, hlt0, hcell⟩ := Hcell.out (by have := Hn.out; omega)
      obtain ⟨c0, c1, c2⟩ := hcell k e he wr hbr
      obtain ⟨x1, x2, x3⟩ := e
      obtain ⟨o1, o2, o3⟩ := oe
      simp only [] at c0 c1 c2 o1 o2
      have i1 : (k : Int) < n := by omega
      have Hst := Lib.hid hst
      clear he hcell hst
      by_cases g1 : x1 = h
      · subst g1
        by_cases g2 : f ≤ x2
        · by_cases g3 : x2 ≤ t
          · have hin : inE x1 f t (x1, x2, x3) = true := by simp [inE, g2, g3]
            go_wp2_with (first
              | (at_builtin; refine wpList_append_reads _ rfl _ _ 22 rfl w.heap.size 25 i0 _ 3 24 Try.underlying22 hi0 hz0 hz1 hz2 rfl (by decide) _ m _ rfl (own_next Hown.out (below_lit wr _)) _ 1 (entsC [(x1, x2, x3)]) rfl (ents_lit wr (x1, x2, x3) ⟨o1, o2, o3⟩).1 (entsC_one _) (by unfold maxLen; omega) (by omega) (below_chain hbr (below_lit wr _)).size ?_; intro v3 w3 hown3 hg3))
            have hb3 := (below_chain hbr (below_lit wr (.cells (entC (x1, x2, x3)) 25))).grown hg3 (below_chain hbr (below_lit wr _)).size (own_block_ge Hown.out)
            go_wp2
            go_roundw
            case rel =>
              refine ⟨k + 1, m + 1, by omega, by omega, by go_num, ?_, ?_, hb3⟩
              · rw [Hst.out, entsC_append]
                simpa [hin] using hown3
              · rw [Hst.out]
                have := Hp.out
                simp [hin, this]
            case measure => simp [intOf]; omega
          · have hin : inE x1 f t (x1, x2, x3) = false := by simp [inE]; omega
            go_wp2
            go_roundw
            case rel => exact ⟨k + 1, m, by omega, by omega, by go_num, by rw [Hst.out]; simpa [hin] using Hown.out, by rw [Hst.out]; simpa [hin] using Hp.out, hbr⟩
            case measure => simp [intOf]; omega
        · have hin : inE x1 f t (x1, x2, x3) = false := by simp [inE]; omega
          go_wp2
          go_roundw
          case rel => exact ⟨k + 1, m, by omega, by omega, by go_num, by rw [Hst.out]; simpa [hin] using Hown.out, by rw [Hst.out]; simpa [hin] using Hp.out, hbr⟩
          case measure => simp [intOf]; omega
      · have g1' : ¬ (x1 : Int) = h := by omega
        have hin : inE h f t (x1, x2, x3) = false := by simp [inE, g1]
        go_wp2
        go_roundw
        case rel => exact ⟨k + 1, m, by omega, by omega, by go_num, by rw [Hst.out]; simpa [hin] using Hown.out, by rw [Hst.out]; simpa [hin] using Hp.out, hbr⟩
        case measure => simp [intOf]; omega
    · have i1 : ¬ (k : Int) < n := by omega
      have hx := Hown.out
      have hy := Hp.out
      rw [List.take_of_length_le (by have := Hn.out; omega)] at hx hy
      go_wp2
      go_ret
      refine ⟨_, rfl, ?_, hbr⟩
      first | exact hx | (rw [← hy]; exact hx) | (rw [hy]; exact hx)

theorem lastE_drop {l : List Ent} {h : Nat} {t : Int} {k : Nat} (hp : ∀ i, (hi : i < l.length) → k ≤ i → uptoE h t l[i] = false) : (k = 0 → lastE l h t = none) ∧ (∀ j e, k = j + 1 → l[j]? = some e → uptoE h t e = true → lastE l h t = some e) := by
  constructor
  · rintro rfl
    unfold lastE
    rw [none_filter (fun i hi => hp i hi (Nat.zero_le _))]; rfl
  · rintro j e rfl he hu
    obtain ⟨h1, rfl⟩ := List.getElem?_eq_some_iff.1 he
    unfold lastE
    exact getLast_filter h1 hu fun i hi hmi => hp i hi (by omega)

set_option maxHeartbeats 1000000 in
theorem ref_Last (v : Value) (l : List Ent) (h : Nat) (t : Int) (w : World) (hl : Ents w v l) (hh : h < 18446744073709551616)
    (ht : -9223372036854775808 ≤ t ∧ t ≤ 9223372036854775807) :
    Calls Try.prog 18 #[v, .int .u64 h, .int .i64 t] w fun e w' => e = .returned (.tuple #[.agg (entC (entO (lastE l h t))), .bool (lastE l h t).isSome]) ∧ Below w.heap.size w w' := by
  have hz := below_lit w (.cells #[.int .u64 0, .int .i64 0, .int .i64 0] 25)
  obtain ⟨⟨A, c, rfl, -, -, -, -⟩, -⟩ := id hl
  obtain ⟨-, h1, h2, -⟩ := hl.cells
  unfold maxLen at h2
  have hok := fun (i : Nat) (e : Ent) (hi : l[i]? = some e) => hl.ok hi
  have hcell := fun h0 => hl.later h0
  obtain ⟨n, hn'⟩ : ∃ n, n = l.length := ⟨_, rfl⟩
  rw [← hn'] at h1
  rw [← hn'] at hl ⊢
  have Hn := Lib.hid hn'
  have Hok := Lib.hid hok
  have Hcell := Lib.hid hcell
  clear hok hcell hn' hl
  go_enter Try.func18, Try.ntmps18
  go_wp2_with fail
  go_loopw [8] (fun i wr => ∃ k : Nat, k ≤ n ∧ i = .int .i64 ((k : Int) - 1) ∧ (∀ i, (hi : i < l.length) → k ≤ i → uptoE h t l[i] = false) ∧ Below (w.alloc (.cells #[.int .u64 0, .int .i64 0, .int .i64 0] 25)).heap.size (w.alloc (.cells #[.int .u64 0, .int .i64 0, .int .i64 0] 25)) wr) (fun i _ => (intOf i + 1).toNat)
  case atStart => exact ⟨n, by omega, by go_num, fun i hi h1 => absurd hi (by have := Hn.out; omega), Below.refl _ _⟩
  case round =>
    obtain ⟨k, hk, rfl, hp, hbr⟩ := hrel
    have hbw := below_chain hz hbr
    obtain ⟨q1, q2⟩ := lastE_drop hp
    have hrow : Row wr w.heap.size 25 [.int .u64 0, .int .i64 0, .int .i64 0] := (Row.new w #[.int .u64 0, .int .i64 0, .int .i64 0] 25).next hbr
    have r0 := hrow.cell 0 (by simp)
    have r1 := hrow.cell 1 (by simp)
    have r2 := hrow.cell 2 (by simp)
    have f0 := hrow.frozen 0 (by simp)
    have f1 := hrow.frozen 1 (by simp)
    have f2 := hrow.frozen 2 (by simp)
    simp only [List.getElem_cons_zero, List.getElem_cons_succ] at r0 r1 r2
    have Hp := Lib.hid hp
    have Q2 := Lib.hid q2
    clear hp hrow q2
    rcases Nat.eq_zero_or_pos k with h0 | h0
    · have hlast := q1 h0
      subst h0
      clear q1
      go_wp2
      refine bodyPost_ret (v := .tuple #[.agg #[.int .u64 0, .int .i64 0, .int .i64 0], .bool false]) (by simp [results, Try.results18, go_sem, r0, r1, r2]) rfl ⟨by first | rfl | (rw [hlast]; rfl), ((hbw.setCell (Nat.le_refl _) _).setCell (Nat.le_refl _) _).setCell (Nat.le_refl _) _⟩
    · clear q1
      obtain ⟨j, rfl⟩ : ∃ j, k = j + 1 := ⟨k - 1, by omega⟩
      obtain ⟨e, he⟩ : ∃ e, l[j]? = some e := ⟨_, List.getElem?_eq_getElem (by have := Hn.out; omega)⟩
      have oe := Hok.out j e he
      have e1 := List.getElem?_eq_some_iff.1 he
      obtain ⟨b, off, rfl, hlt0, hcell⟩ := Hcell.out (by have := Hn.out; omega)
      obtain ⟨c0, c1, c2⟩ := hcell j e he wr hbw
      have hq := fun hu => Q2.out j e rfl he hu
      obtain ⟨x1, x2, x3⟩ := e
      obtain ⟨o1, o2, o3⟩ := oe
      simp only [] at c0 c1 c2 o1 o2
      have ej : (((j + 1 : Nat) : Int) - 1) = j := by omega
      simp only [ej]
      have i1 : (0 : Int) ≤ j := by omega
      have i2 : (j : Int) < n := by omega
      have wj : IntKind.i64.wrap ((j : Int) - 1) = (j : Int) - 1 := by rw [IntKind.wrap_i64]; omega
      have E1 := Lib.hid e1
      have Hq := Lib.hid hq
      clear he hcell e1 hq Q2
      by_cases g1 : x1 = h
      · subst g1
        by_cases g3 : x2 ≤ t
        · have hlast := Hq.out (by simp [uptoE, g3])
          go_wp2
          refine bodyPost_ret (v := .tuple #[.agg #[.int .u64 x1, .int .i64 x2, .int .i64 x3], .bool true]) (by simp [results, Try.results18, go_sem, r0, r1, r2]) rfl ⟨by first | rfl | (rw [hlast]; rfl), ((hbw.setCell (Nat.le_refl _) _).setCell (Nat.le_refl _) _).setCell (Nat.le_refl _) _⟩
        · go_wp2
          go_roundw
          case rel =>
            refine ⟨j, by omega, by first | rfl | (rw [wj]), fun i hi h5 => ?_, hbr⟩
            rcases Nat.lt_or_ge j i with h7 | h7
            · exact Hp.out i hi (by omega)
            · obtain rfl : i = j := by omega
              rw [E1.out.2]; simp [uptoE]; omega
          case measure => simp [intOf] <;> omega
      · have g1' : ¬ (x1 : Int) = h := by omega
        go_wp2
        go_roundw
        case rel =>
          refine ⟨j, by omega, by first | rfl | (rw [wj]), fun i hi h5 => ?_, hbr⟩
          rcases Nat.lt_or_ge j i with h7 | h7
          · exact Hp.out i hi (by omega)
          · obtain rfl : i = j := by omega
            rw [E1.out.2]; simp [uptoE, g1]
        case measure => simp [intOf] <;> omega
end Go.Proofs.Ytikodobglhjoiaa
