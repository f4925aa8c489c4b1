/-
  ENTRIES: the last one of a hash up to a version.
-/
import Derived.Test.YtikodobglhjoiaaEntGet
import Derived.Test.YtikodobglhjoiaaEntRange
namespace Go.Proofs.Ytikodobglhjoiaa
open Go.RowKit
set_option linter.unusedVariables false

def entO (o : Option Ent) : Ent := o.getD (0, 0, 0)
theorem lastE_mem {l : List Ent} {h : Nat} {t : Int} {e : Ent} (he : lastE l h t = some e) : e ∈ l := by
  unfold lastE at he
  have := List.mem_of_getLast? he
  exact (List.mem_filter.1 this).1
theorem entO_ok {w : World} {v : Value} {l : List Ent} (hl : Ents w v l) (h : Nat) (t : Int) : okE (entO (lastE l h t)) := by
  unfold entO
  rcases he : lastE l h t with _ | e
  · simp [okE]
  · exact hl.2 e (lastE_mem he)

set_option maxHeartbeats 1000000 in
theorem entries_Last (v : Value) (l : List Ent) (h : Nat) (t : Int) (w : World) (hl : Ents w v l) (hs : sortedE l = true) (hh : h < 18446744073709551616)
    (ht : -9223372036854775808 ≤ t ∧ t ≤ 9223372036854775807) :
    Calls Try.prog 17 #[v, .int .u64 h, .int .i64 t] w fun e w' => e = .returned (.tuple #[.agg (entC (entO (lastE l h t))), .bool (lastE l h t).isSome]) ∧ Below w.heap.size w w' := by
  have hz := below_lit w (.cells #[.int .u64 0, .int .i64 0, .int .i64 0] 25)
  obtain ⟨⟨A, c, rfl, -, -, -, -⟩, -⟩ := id hl
  obtain ⟨-, h1, h2, -⟩ := hl.cells
  unfold maxLen at h2
  have hle := searchE_le l h t
  have hcut := searchE_cut hs h t
  obtain ⟨n, hn'⟩ : ∃ n, n = l.length := ⟨_, rfl⟩
  rw [← hn'] at h1 hl hle ⊢
  have Hl := Lib.hid hl
  have Hn := Lib.hid hn'
  have Hs0 := Lib.hid hs
  clear hn'
  go_enter Try.func17, Try.ntmps17
  go_wp2_with fail
  refine (entries_Search _ l h t _ (Hl.out.next hz) hs hh ht).mono ?_
  rintro e w1 ⟨rfl, hb1⟩
  have hbw1 := below_chain hz hb1
  have hc := fun w' (hb : Below (w.alloc (.cells #[.int .u64 0, .int .i64 0, .int .i64 0] 25)).heap.size (w.alloc (.cells #[.int .u64 0, .int .i64 0, .int .i64 0] 25)) w') => ent_box w (0, 0, 0) _ w' hb
  obtain ⟨s, hs'⟩ : ∃ s, s = searchE l h t := ⟨_, rfl⟩
  rw [← hs'] at hle ⊢
  have Hs := Lib.hid hs'
  have Hc := Lib.hid hc
  clear hs' hl hc hs
  go_wp2_with fail
  go_loopw [8] (fun i wr => ∃ m : Nat, s ≤ m ∧ m ≤ n ∧ i = .int .i64 (m : Int) ∧ (∀ i, (hi : i < l.length) → s ≤ i → i < m → uptoE h t l[i] = true) ∧ Below (w.alloc (.cells #[.int .u64 0, .int .i64 0, .int .i64 0] 25)).heap.size (w.alloc (.cells #[.int .u64 0, .int .i64 0, .int .i64 0] 25)) wr) (fun i _ => n - (intOf i).toNat)
  case atStart => exact ⟨s, by omega, by omega, rfl, fun i _ h1 h2 => absurd h1 (by omega), hb1⟩
  case round =>
    obtain ⟨m, hm1, hm2, rfl, hp, hbr⟩ := hrel
    have hbw := below_chain hz hbr
    -- the end, from here
    have key : ((hm : m < l.length) → uptoE h t l[m] = false) → (m = 0 ∧ lastE l h t = none) ∨ ∃ k y1 y2 y3, m = k + 1 ∧ l[k]? = some (y1, y2, y3) ∧ ((y1 = h ∧ y2 ≤ t ∧ lastE l h t = some (y1, y2, y3)) ∨ (¬ y1 = h ∧ lastE l h t = none) ∨ (y1 = h ∧ ¬ y2 ≤ t ∧ lastE l h t = none)) := fun hx => by
      rcases Nat.eq_zero_or_pos m with h0 | h0
      · subst h0
        exact .inl ⟨rfl, lastE_zero Hs0.out (by rw [← Hs.out]; omega) hx⟩
      · obtain ⟨k, rfl⟩ : ∃ k, m = k + 1 := ⟨m - 1, by omega⟩
        have hk : k < l.length := by rw [← Hn.out]; omega
        refine .inr ⟨k, l[k].1, l[k].2.1, l[k].2.2, rfl, List.getElem?_eq_getElem hk, ?_⟩
        rcases hu : uptoE h t l[k] with _ | _
        · have hks : k + 1 = s := by
            rcases Nat.lt_or_ge k s with h5 | h5
            · omega
            · rw [hp k hk h5 (by omega)] at hu; cases hu
          have := lastE_none Hs0.out (by rw [← Hs.out]; omega) hk hx hu (by rw [← Hs.out]; exact hks)
          have hu' := of_decide_eq_false hu
          by_cases g : l[k].1 = h
          · exact .inr (.inr ⟨g, fun g2 => hu' ⟨g, g2⟩, this⟩)
          · exact .inr (.inl ⟨g, this⟩)
        · have := lastE_some Hs0.out (by rw [← Hs.out]; omega) hk hx hu
          exact .inl ⟨(of_decide_eq_true hu).1, (of_decide_eq_true hu).2, this⟩
    have Hp := Lib.hid hp
    have hrow : Row wr w.heap.size 25 [.int .u64 0, .int .i64 0, .int .i64 0] := (Row.new w #[.int .u64 0, .int .i64 0, .int .i64 0] 25).next hbr
    have r0 := hrow.cell 0 (by simp)
    have r1 := hrow.cell 1 (by simp)
    have r2 := hrow.cell 2 (by simp)
    have f0 := hrow.frozen 0 (by simp)
    have f1 := hrow.frozen 1 (by simp)
    have f2 := hrow.frozen 2 (by simp)
    simp only [List.getElem_cons_zero, List.getElem_cons_succ] at r0 r1 r2
    have Key := Lib.hid key
    have Hrow := Lib.hid hrow
    clear hp key hrow
    by_cases hlt : m < n
    · have i1 : (m : Int) < n := by omega
      obtain ⟨e, he⟩ : ∃ e, l[m]? = some e := ⟨_, List.getElem?_eq_getElem (by rw [← Hn.out]; omega)⟩
      obtain ⟨b, off, rfl, hlt0, hcell⟩ := Ents.later Hl.out (by rw [← Hn.out]; omega)
      obtain ⟨c0, c1, -⟩ := hcell m e he wr hbw
      have e1 := List.getElem?_eq_some_iff.1 he
      have hoe := Hl.out.ok he
      obtain ⟨x1, x2, x3⟩ := e
      obtain ⟨o1, o2, o3⟩ := hoe
      simp only [] at c0 c1 o1 o2
      have E1 := Lib.hid e1
      have Hcell := Lib.hid hcell
      clear he hcell e1
      by_cases g1 : x1 = h
      · subst g1
        by_cases g2 : x2 ≤ t
        · go_wp2
          go_roundw
          case rel =>
            refine ⟨m + 1, by omega, by omega, by go_num, fun i hi h5 h6 => ?_, hbr⟩
            rcases Nat.lt_or_ge i m with h7 | h7
            · exact Hp.out i hi h5 h7
            · obtain rfl : i = m := by omega
              rw [E1.out.2]; simp [uptoE, g2]
          case measure => simp [intOf]; omega
        · rcases Key.out (fun _ => by rw [E1.out.2]; simp [uptoE]; omega) with ⟨h0, hlast⟩ | ⟨k, y1, y2, y3, rfl, hk, ⟨q0, q2, hlast⟩ | ⟨q1, hlast⟩ | ⟨q0, q2, hlast⟩⟩
          · subst h0
            simp only [Nat.zero_mul, Nat.add_zero] at c0 c1
            have i2 : (0 : Int) < n := by omega
            clear i1
            clear Key
            go_wp2
            refine bodyPost_ret (v := .tuple #[.agg #[.int .u64 0, .int .i64 0, .int .i64 0], .bool false]) (by simp [results, Try.results17, go_sem, r0, r1, r2]) rfl ⟨by first | rfl | (rw [hlast]; rfl), ((hbw.setCell (Nat.le_refl _) _).setCell (Nat.le_refl _) _).setCell (Nat.le_refl _) _⟩
          · obtain ⟨d0, d1, d2⟩ := Hcell.out k _ hk wr hbw
            simp only [] at d0 d1 d2
            have hne : ¬ ((k : Int) + 1 = 0) := by omega
            have wk : IntKind.i64.wrap ((k : Int) + 1 - 1) = k := by rw [IntKind.wrap_i64]; omega
            have k1 : (k : Int) < n := by omega
            clear Key hk
            have q3 : decide (t < y2) = false := by simp; omega
            subst q0
            go_wp2
            refine bodyPost_ret (v := .tuple #[.agg #[.int .u64 y1, .int .i64 y2, .int .i64 y3], .bool true]) (by simp [results, Try.results17, go_sem, r0, r1, r2]) rfl ⟨by first | rfl | (rw [hlast]; rfl), ((hbw.setCell (Nat.le_refl _) _).setCell (Nat.le_refl _) _).setCell (Nat.le_refl _) _⟩
          · obtain ⟨d0, d1, d2⟩ := Hcell.out k _ hk wr hbw
            simp only [] at d0 d1 d2
            have hne : ¬ ((k : Int) + 1 = 0) := by omega
            have wk : IntKind.i64.wrap ((k : Int) + 1 - 1) = k := by rw [IntKind.wrap_i64]; omega
            have k1 : (k : Int) < n := by omega
            clear Key hk
            have q1' : ¬ (y1 : Int) = x1 := by omega
            go_wp2
            refine bodyPost_ret (v := .tuple #[.agg #[.int .u64 0, .int .i64 0, .int .i64 0], .bool false]) (by simp [results, Try.results17, go_sem, r0, r1, r2]) rfl ⟨by first | rfl | (rw [hlast]; rfl), ((hbw.setCell (Nat.le_refl _) _).setCell (Nat.le_refl _) _).setCell (Nat.le_refl _) _⟩
          · obtain ⟨d0, d1, d2⟩ := Hcell.out k _ hk wr hbw
            simp only [] at d0 d1 d2
            have hne : ¬ ((k : Int) + 1 = 0) := by omega
            have wk : IntKind.i64.wrap ((k : Int) + 1 - 1) = k := by rw [IntKind.wrap_i64]; omega
            have k1 : (k : Int) < n := by omega
            clear Key hk
            have q3 : t < y2 := by omega
            subst q0
            go_wp2
            refine bodyPost_ret (v := .tuple #[.agg #[.int .u64 0, .int .i64 0, .int .i64 0], .bool false]) (by simp [results, Try.results17, go_sem, r0, r1, r2]) rfl ⟨by first | rfl | (rw [hlast]; rfl), ((hbw.setCell (Nat.le_refl _) _).setCell (Nat.le_refl _) _).setCell (Nat.le_refl _) _⟩
      · have g1' : ¬ (x1 : Int) = h := by omega
        rcases Key.out (fun _ => by rw [E1.out.2]; simp [uptoE, g1]) with ⟨h0, hlast⟩ | ⟨k, y1, y2, y3, rfl, hk, ⟨q0, q2, hlast⟩ | ⟨q1, hlast⟩ | ⟨q0, q2, hlast⟩⟩
        · subst h0
          simp only [Nat.zero_mul, Nat.add_zero] at c0 c1
          have i2 : (0 : Int) < n := by omega
          clear i1
          clear Key
          go_wp2
          refine bodyPost_ret (v := .tuple #[.agg #[.int .u64 0, .int .i64 0, .int .i64 0], .bool false]) (by simp [results, Try.results17, go_sem, r0, r1, r2]) rfl ⟨by first | rfl | (rw [hlast]; rfl), ((hbw.setCell (Nat.le_refl _) _).setCell (Nat.le_refl _) _).setCell (Nat.le_refl _) _⟩
        · obtain ⟨d0, d1, d2⟩ := Hcell.out k _ hk wr hbw
          simp only [] at d0 d1 d2
          have hne : ¬ ((k : Int) + 1 = 0) := by omega
          have wk : IntKind.i64.wrap ((k : Int) + 1 - 1) = k := by rw [IntKind.wrap_i64]; omega
          have k1 : (k : Int) < n := by omega
          clear Key hk
          have q3 : decide (t < y2) = false := by simp; omega
          subst q0
          go_wp2
          refine bodyPost_ret (v := .tuple #[.agg #[.int .u64 y1, .int .i64 y2, .int .i64 y3], .bool true]) (by simp [results, Try.results17, go_sem, r0, r1, r2]) rfl ⟨by first | rfl | (rw [hlast]; rfl), ((hbw.setCell (Nat.le_refl _) _).setCell (Nat.le_refl _) _).setCell (Nat.le_refl _) _⟩
        · obtain ⟨d0, d1, d2⟩ := Hcell.out k _ hk wr hbw
          simp only [] at d0 d1 d2
          have hne : ¬ ((k : Int) + 1 = 0) := by omega
          have wk : IntKind.i64.wrap ((k : Int) + 1 - 1) = k := by rw [IntKind.wrap_i64]; omega
          have k1 : (k : Int) < n := by omega
          clear Key hk
          have q1' : ¬ (y1 : Int) = h := by omega
          go_wp2
          refine bodyPost_ret (v := .tuple #[.agg #[.int .u64 0, .int .i64 0, .int .i64 0], .bool false]) (by simp [results, Try.results17, go_sem, r0, r1, r2]) rfl ⟨by first | rfl | (rw [hlast]; rfl), ((hbw.setCell (Nat.le_refl _) _).setCell (Nat.le_refl _) _).setCell (Nat.le_refl _) _⟩
        · obtain ⟨d0, d1, d2⟩ := Hcell.out k _ hk wr hbw
          simp only [] at d0 d1 d2
          have hne : ¬ ((k : Int) + 1 = 0) := by omega
          have wk : IntKind.i64.wrap ((k : Int) + 1 - 1) = k := by rw [IntKind.wrap_i64]; omega
          have k1 : (k : Int) < n := by omega
          clear Key hk
          have q3 : t < y2 := by omega
          subst q0
          go_wp2
          refine bodyPost_ret (v := .tuple #[.agg #[.int .u64 0, .int .i64 0, .int .i64 0], .bool false]) (by simp [results, Try.results17, go_sem, r0, r1, r2]) rfl ⟨by first | rfl | (rw [hlast]; rfl), ((hbw.setCell (Nat.le_refl _) _).setCell (Nat.le_refl _) _).setCell (Nat.le_refl _) _⟩
    · have i1 : ¬ (m : Int) < n := by omega
      have hcell := fun h0 => Ents.later Hl.out h0
      have Hcell := Lib.hid hcell
      clear hcell
      rcases Key.out (fun hm => absurd hm (by rw [← Hn.out]; omega)) with ⟨h0, hlast⟩ | ⟨k, y1, y2, y3, rfl, hk, ⟨q0, q2, hlast⟩ | ⟨q1, hlast⟩ | ⟨q0, q2, hlast⟩⟩
      · subst h0
        have i2 : ¬ (0 : Int) < n := by omega
        clear i1
        clear Key
        go_wp2
        refine bodyPost_ret (v := .tuple #[.agg #[.int .u64 0, .int .i64 0, .int .i64 0], .bool false]) (by simp [results, Try.results17, go_sem, r0, r1, r2]) rfl ⟨by first | rfl | (rw [hlast]; rfl), ((hbw.setCell (Nat.le_refl _) _).setCell (Nat.le_refl _) _).setCell (Nat.le_refl _) _⟩
      · obtain ⟨b, off, rfl, -, hcell⟩ := Hcell.out (by rw [← Hn.out]; omega)
        obtain ⟨d0, d1, d2⟩ := hcell k _ hk wr hbw
        clear hcell
        simp only [] at d0 d1 d2
        have hne : ¬ ((k : Int) + 1 = 0) := by omega
        have wk : IntKind.i64.wrap ((k : Int) + 1 - 1) = k := by rw [IntKind.wrap_i64]; omega
        have k1 : (k : Int) < n := by omega
        clear Key hk
        have q3 : decide (t < y2) = false := by simp; omega
        subst q0
        go_wp2
        refine bodyPost_ret (v := .tuple #[.agg #[.int .u64 y1, .int .i64 y2, .int .i64 y3], .bool true]) (by simp [results, Try.results17, go_sem, r0, r1, r2]) rfl ⟨by first | rfl | (rw [hlast]; rfl), ((hbw.setCell (Nat.le_refl _) _).setCell (Nat.le_refl _) _).setCell (Nat.le_refl _) _⟩
      · obtain ⟨b, off, rfl, -, hcell⟩ := Hcell.out (by rw [← Hn.out]; omega)
        obtain ⟨d0, d1, d2⟩ := hcell k _ hk wr hbw
        clear hcell
        simp only [] at d0 d1 d2
        have hne : ¬ ((k : Int) + 1 = 0) := by omega
        have wk : IntKind.i64.wrap ((k : Int) + 1 - 1) = k := by rw [IntKind.wrap_i64]; omega
        have k1 : (k : Int) < n := by omega
        clear Key hk
        have q1' : ¬ (y1 : Int) = h := by omega
        go_wp2
        refine bodyPost_ret (v := .tuple #[.agg #[.int .u64 0, .int .i64 0, .int .i64 0], .bool false]) (by simp [results, Try.results17, go_sem, r0, r1, r2]) rfl ⟨by first | rfl | (rw [hlast]; rfl), ((hbw.setCell (Nat.le_refl _) _).setCell (Nat.le_refl _) _).setCell (Nat.le_refl _) _⟩
      · obtain ⟨b, off, rfl, -, hcell⟩ := Hcell.out (by rw [← Hn.out]; omega)
        obtain ⟨d0, d1, d2⟩ := hcell k _ hk wr hbw
        clear hcell
        simp only [] at d0 d1 d2
        have hne : ¬ ((k : Int) + 1 = 0) := by omega
        have wk : IntKind.i64.wrap ((k : Int) + 1 - 1) = k := by rw [IntKind.wrap_i64]; omega
        have k1 : (k : Int) < n := by omega
        clear Key hk
        have q3 : t < y2 := by omega
        subst q0
        go_wp2
        refine bodyPost_ret (v := .tuple #[.agg #[.int .u64 0, .int .i64 0, .int .i64 0], .bool false]) (by simp [results, Try.results17, go_sem, r0, r1, r2]) rfl ⟨by first | rfl | (rw [hlast]; rfl), ((hbw.setCell (Nat.le_refl _) _).setCell (Nat.le_refl _) _).setCell (Nat.le_refl _) _⟩
end Go.Proofs.Ytikodobglhjoiaa
