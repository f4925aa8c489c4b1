/-
  ENTRIES, the reference's Sort: put in one by one.
-/
import Derived.Test.YtikodobglhjoiaaEntRange
import Derived.Test.YtikodobglhjoiaaEntRefS
import Derived.Deep.RegionHeld3
namespace Go.Proofs.Ytikodobglhjoiaa
open Go.RowKit
set_option linter.unusedVariables false

theorem sortE_take_succ {l : List Ent} {k : Nat} {e : Ent} (h : l[k]? = some e) : sortE (l.take (k + 1)) = insE (sortE (l.take k)) e := by
  unfold sortE
  rw [List.take_add_one, h, List.foldl_append]; rfl

theorem Reads.drew' {w : World} {v : Value} {s n : Nat} {xs : List Value} (h : Reads w v s n xs) : Reads w.drew v s n xs := h
theorem sort_held {w : World} {x1 : Nat} {x2 x3 : Int} {p0 p1 p2 : Addr} (h : ∀ w', Below w.heap.size w w' → w'.cell? p0 = some (.int .u64 x1) ∧ w'.cell? p1 = some (.int .i64 x2) ∧ w'.cell? p2 = some (.int .i64 x3)) :
    ∀ w', Below w.heap.size w w' → Below w.heap.size w w' ∧ w'.cell? p0 = some (.int .u64 x1) ∧ w'.cell? p1 = some (.int .i64 x2) ∧ w'.cell? p2 = some (.int .i64 x3) := fun w' hb => ⟨hb, h w' hb⟩
theorem Ents.of_own {w : World} {base m : Nat} {e : TypeId} {v : Value} {l : List Ent} (h : w.ownsRow base e 3 v m (entsC l)) (hm : l.length = m) (hok : ∀ x ∈ l, okE x) : Ents w v l := by
  subst hm; exact ⟨Reads.of_own h, hok⟩
theorem sort_rel {w : World} {base m j : Nat} {t : TypeId} {v : Value} {O : List Ent} {e : Ent} (h : w.ownsRow base t 3 v (0 + j + 1 + (m - j)) ([] ++ entsC (O.take j) ++ entsC [e] ++ entsC (O.drop j))) (hj : j ≤ m) (hm : O.length = m) (hins : insE O e = O.take j ++ e :: O.drop j) :
    w.ownsRow base t 3 v (m + 1) (entsC (insE O e)) ∧ (insE O e).length = m + 1 := by
  rw [hins]
  refine ⟨?_, by simp; omega⟩
  have e1 : 0 + j + 1 + (m - j) = m + 1 := by omega
  rw [e1] at h
  have e2 : entsC (O.take j ++ e :: O.drop j) = [] ++ entsC (O.take j) ++ entsC [e] ++ entsC (O.drop j) := by
    rw [entsC_append, entsC_cons, entsC_cons]; simp [entsC]
  rw [e2]; exact h
theorem insE_at {O : List Ent} {e : Ent} {j : Nat} (h : posE e O = j) (hne : ¬ O[j]? = some e) : insE O e = O.take j ++ e :: O.drop j := by
  unfold insE; rw [h, if_neg hne]
theorem insE_there {O : List Ent} {e : Ent} {j : Nat} (h : posE e O = j) (he : O[j]? = some e) : insE O e = O := by
  unfold insE; rw [h, if_pos he]
theorem sort_HT {w : World} {g m cap j : Nat} {O : List Ent} (hO : Ents w (.slice (some ⟨g, 0, none⟩) m cap) O) (hm : O.length = m) (hj : j ≤ m) (w' : World) (hb : Below w.heap.size w w') : Reads w' (.slice (some ⟨g, 0, none⟩) j cap) 3 j (entsC (O.take j)) := by
  have hc := hO.cells
  have h := (Ents.sliced hO 0 j cap (Nat.zero_le _) (by omega) (by omega) (Nat.le_refl _)).1.next hb
  have e : (List.take (j - 0) (List.drop 0 O)) = O.take j := by simp
  rw [e] at h
  have e2 : (O.take j).length = j := by simp; omega
  rw [e2] at h
  have e3 : Go.sliced (some ⟨g, 0, none⟩) 0 j cap 3 = .slice (some ⟨g, 0, none⟩) j cap := by
    unfold Go.sliced; split <;> simp [Addr.add_lit]
  rw [e3] at h
  exact h
theorem sort_HD {w : World} {g m cap j : Nat} {O : List Ent} (hO : Ents w (.slice (some ⟨g, 0, none⟩) m cap) O) (hm : O.length = m) (hj : j < m) (w' : World) (hb : Below w.heap.size w w') : Reads w' (.slice (some ⟨g, j * 3, none⟩) (m - j) (cap - j)) 3 (m - j) (entsC (O.drop j)) := by
  have hc := hO.cells
  have h := (Ents.sliced hO j m cap (by omega) (by omega) (by omega) (Nat.le_refl _)).1.next hb
  have e : (List.take (m - j) (List.drop j O)) = O.drop j := List.take_of_length_le (by simp; omega)
  rw [e] at h
  have e2 : (O.drop j).length = m - j := by simp; omega
  rw [e2] at h
  have e3 : Go.sliced (some ⟨g, 0, none⟩) j m cap 3 = .slice (some ⟨g, j * 3, none⟩) (m - j) (cap - j) := by
    unfold Go.sliced; rw [if_neg (by omega)]; simp [Addr.add_lit]
  rw [e3] at h
  exact h
theorem reads_none (w : World) (A : Option Addr) (c : Nat) (hc : c ≤ maxLen) : Reads w (.slice A 0 c) 3 0 [] := ⟨A, c, rfl, Nat.zero_le _, hc, rfl, fun h => absurd h (by omega)⟩

set_option maxHeartbeats 2000000 in
theorem ref_Sort (v : Value) (l : List Ent) (w : World) (hl : Ents w v l) (hn : l.length ≤ 1000000000) :
    Calls Try.prog 15 #[v] w fun e w' => ∃ v', e = .returned v' ∧ w'.ownsRow w.heap.size 25 3 v' (sortE l).length (entsC (sortE l)) ∧ Below w.heap.size w w' := by
  obtain ⟨⟨A, c, rfl, -, -, -, -⟩, -⟩ := id hl
  obtain ⟨-, h1, h2, -⟩ := hl.cells
  unfold maxLen at h2
  obtain ⟨i0, hi0, hz0, hz1, hz2⟩ := info_parts infoEnt
  have hok := fun (i : Nat) (e : Ent) (hi : l[i]? = some e) => hl.ok hi
  have hcell := fun h0 => hl.later h0
  have hall := hl.2
  obtain ⟨n, hn'⟩ : ∃ n, n = l.length := ⟨_, rfl⟩
  rw [← hn'] at h1 hn
  rw [← hn'] at hl ⊢
  have Hn := Lib.hid hn'
  have Hok := Lib.hid hok
  have Hcell := Lib.hid hcell
  have Hall := Lib.hid hall
  clear hok hcell hn' hl hall
  go_enter Try.func15, Try.ntmps15
  go_wp2_with fail
  go_loopw [3, 4] (fun o i wr => ∃ k m : Nat, k ≤ n ∧ m ≤ k ∧ i = .int .i64 (k : Int) ∧ wr.ownsRow w.heap.size 25 3 o m (entsC (sortE (l.take k))) ∧ (sortE (l.take k)).length = m ∧ Below w.heap.size w wr) (fun _ i _ => n - (intOf i).toNat)
  case atStart => exact ⟨0, 0, by omega, by omega, rfl, World.ownsRow_nil _ _ _ _, rfl, Below.refl _ _⟩
  case round =>
    obtain ⟨k, m, hk, hm, rfl, hown, hp, hbr⟩ := hrel
    by_cases hlt : k < n
    · obtain ⟨e, he⟩ : ∃ e, l[k]? = some e := ⟨_, List.getElem?_eq_getElem (by have := Hn.out; omega)⟩
      have oe := Hok.out k e he
      have hst := sortE_take_succ he
      have hOok : ∀ x ∈ sortE (l.take k), okE x := fun x hx => Hall.out x (List.mem_of_mem_take (mem_sortE.1 hx))
      obtain ⟨b, off, rfl, hlt0, hcell⟩ := Hcell.out (by have := Hn.out; omega)
      have hce := hcell k e he
      generalize sortE (l.take k) = O at hown hp hst hOok
      have hO := Ents.of_own hown hp hOok
      have HO := Lib.hid hp
      obtain ⟨x1, x2, x3⟩ := e
      simp only [] at hce
      have i1 : (k : Int) < n := by omega
      clear he hcell hOok hp
      rcases hown.2 with ⟨rfl, rfl⟩ | ⟨g, cap, cur, rfl, hbg, hg, hnc, hcm, -, -⟩
      · obtain rfl := List.eq_nil_of_length_eq_zero HO.out
        have Hce := Lib.hid hce
        clear hce
        go_wp2_with fail
        go_loopw [5] (fun j wi => j = .int .i64 0 ∧ Below wr.heap.size wr wi) (fun j _ => 0)
        case atStart => exact ⟨rfl, Below.refl _ _⟩
        case round =>
          obtain ⟨rfl, hbi⟩ := hrel
          have cc := fun x : Later wr => Hce.out x.it (below_chain (below_chain hbr hbi) x.ok)
          have cc0 := fun x => (cc x).1
          have cc1 := fun x => (cc x).2.1
          have cc2 := fun x => (cc x).2.2
          clear cc
          go_wp2_with fail
          refine wp_region_below (by kernel_rfl) (by kernel_rfl) ?_
          repeat (first | go_big_quiet_skip | (go_big_quiet_want; go_big_quiet_op; go_big_quiet_on) | (go_big_quiet_want; go_big_quiet_op; apply Exists.intro; refine ⟨fun x => ?_, ?_⟩; (fail); go_big_quiet_on))
          refine wpQuiet_nil ?_
          intro _ hx
          obtain ⟨⟨w1, hb1⟩, rfl⟩ := hx
          rename_i wj
          go_wp2_with fail
          go_quiet (fail)
          go_wp2_with fail
          have hbi := below_drewN (below_chain hbi hb1) nq
          generalize wj.drewN nq = wi at hbi ⊢
          clear hb1
          have hj : 0 ≤ 0 := Nat.le_refl _
          have hins : insE ([] : List Ent) (x1, x2, x3) = ([] : List Ent).take 0 ++ (x1, x2, x3) :: ([] : List Ent).drop 0 := rfl
          have HT := Lib.hid (show ∀ w', Below wi.heap.size wi w' → Reads w' (.slice none 0 0) 3 0 (entsC (([] : List Ent).take 0)) from fun w' hb => Reads.nil _ _)
          have HD := Lib.hid (show ∀ w', Below wi.heap.size wi w' → Reads w' (.slice none 0 0) 3 0 (entsC (([] : List Ent).drop 0)) from fun w' hb => Reads.nil _ _)
          have hc3 := fun w' hb => Hce.out w' (below_chain (below_chain hbr hbi) hb)
          have HS := Lib.hid (sort_held (x1 := x1) (x2 := x2) (x3 := x3) (p0 := ⟨b, off + k * 3, none⟩) (p1 := ⟨b, off + k * 3 + 1, none⟩) (p2 := ⟨b, off + k * 3 + 2, none⟩) hc3)
          go_region_held3 (fun w' => Below wi.heap.size wi w' ∧ w'.cell? ⟨b, off + k * 3, none⟩ = some (.int .u64 x1) ∧ w'.cell? ⟨b, off + k * 3 + 1, none⟩ = some (.int .i64 x2) ∧ w'.cell? ⟨b, off + k * 3 + 2, none⟩ = some (.int .i64 x3)) (first | (exact HS.out _ hb3) | (exact HS.out _ hb2) | (exact HS.out _ hb1) | (exact HS.out _ (hb1.alloc hb1.size _)) | (exact HS.out _ (Below.refl _ _)) | (exact HS.out _ (Below.refl _ _).drew) | (exact HS.out _ ((Below.refl _ _).drew.alloc (Nat.le_refl _) _)) | fail)
            (first
              | (refine step_append_reads rfl _ _ 22 rfl wi.heap.size 25 i0 _ 3 24 Try.underlying22 hi0 hz0 hz1 hz2 rfl (by decide) (.slice none 0 0) 0 [] rfl (World.ownsRow_nil _ _ _ _) _ 0 _ rfl (HT.out _ (by first | exact (Below.refl _ _).drew | exact (Below.refl _ _).drew.alloc (Nat.le_refl _) _)) (entsC_one _) (by unfold maxLen; omega) (by omega) (Below.size (B := wi.heap.size) (w := wi) (by first | exact (Below.refl _ _).drew | exact (Below.refl _ _).drew.alloc (Nat.le_refl _) _)) ?_; intro v1 w1 hown1 hg1; have hs1 := (Below.refl _ _).grown hg1 (Nat.le_refl _) (by intro k hk; cases hk); have hb1 : Below wi.heap.size wi w1 := Below.grown (w := _) (by first | exact (Below.refl _ _).drew | exact (Below.refl _ _).drew.alloc (Nat.le_refl _) _) hg1 (Below.size (B := wi.heap.size) (w := wi) (by first | exact (Below.refl _ _).drew | exact (Below.refl _ _).drew.alloc (Nat.le_refl _) _)) (by intro k hk; cases hk))
              | (refine step_append_reads rfl _ _ 22 rfl wi.heap.size 25 i0 _ 3 24 Try.underlying22 hi0 hz0 hz1 hz2 rfl (by decide) v1 _ _ rfl (by first | exact hown1 | exact own_next hown1 (below_lit _ _)) _ 1 (entsC [(x1, x2, x3)]) rfl (by first | exact (ents_lit _ _ oe).1 | exact (ents_lit _ _ oe).1.next hs1 | exact (Reads.drew' (ents_lit _ _ oe).1).next hs1) (entsC_one _) (by unfold maxLen; omega) (by omega) (Below.size (B := wi.heap.size) (w := wi) (by first | exact hb1 | exact hb1.alloc hb1.size _)) ?_; intro v2 w2 hown2 hg2; have hb2 : Below wi.heap.size wi w2 := Below.grown (by first | exact hb1 | exact hb1.alloc hb1.size _) hg2 (Below.size (B := wi.heap.size) (w := wi) (by first | exact hb1 | exact hb1.alloc hb1.size _)) (own_block_ge hown1))
              | (refine step_append_reads rfl _ _ 22 rfl wi.heap.size 25 i0 _ 3 24 Try.underlying22 hi0 hz0 hz1 hz2 rfl (by decide) v2 _ _ rfl hown2 _ 0 _ rfl (HD.out _ hb2) (entsC_one _) (by unfold maxLen; omega) (by omega) hb2.size ?_; intro v3 w3 hown3 hg3; have hb3 : Below wi.heap.size wi w3 := hb2.grown hg3 hb2.size (own_block_ge hown2))
              | fail)
          · go_wp2
            go_roundw
            case rel => exact ⟨k + 1, 0 + 1, by omega, by omega, by go_num, by rw [hst]; exact own_base (sort_rel hown3 hj HO.out hins).1 (Nat.le_trans hbr.size hbi.size), by rw [hst]; exact (sort_rel hown3 hj HO.out hins).2, below_chain hbr (below_chain hbi hb3)⟩
            case measure => simp [intOf]; omega
          · go_wp2
            go_roundw
            case rel => exact ⟨k + 1, 0 + 1, by omega, by omega, by go_num, by rw [hst]; exact own_base (sort_rel hown3 hj HO.out hins).1 (Nat.le_trans hbr.size hbi.size), by rw [hst]; exact (sort_rel hown3 hj HO.out hins).2, below_chain hbr (below_chain hbi hb3)⟩
            case measure => simp [intOf]; omega
      · have hce' := hce
        have Hce := Lib.hid hce
        clear hce
        have hoc := fun h0 => Ents.later hO h0
        have Hoc := Lib.hid hoc
        have Hown := Lib.hid hown
        have HOe := Lib.hid hO
        have hcm' := hcm
        unfold maxLen at hcm'
        clear hoc hown hO hce'
        go_wp2_with fail
        go_loopw [5] (fun j wi => ∃ jn : Nat, jn ≤ m ∧ j = .int .i64 (jn : Int) ∧ (∀ i, (hi : i < O.length) → i < jn → lessE O[i] (x1, x2, x3) = true) ∧ Below wr.heap.size wr wi) (fun j _ => m - (intOf j).toNat)
        case atStart => exact ⟨0, by omega, rfl, fun i _ h => absurd h (by omega), Below.refl _ _⟩
        case round =>
          obtain ⟨j, hj, rfl, hpos, hbi⟩ := hrel
          have Hpos := Lib.hid hpos
          clear hpos
          have cc := fun x : Later wr => Hce.out x.it (below_chain (below_chain hbr hbi) x.ok)
          have cc0 := fun x => (cc x).1
          have cc1 := fun x => (cc x).2.1
          have cc2 := fun x => (cc x).2.2
          clear cc
          by_cases hjm : j < m
          · obtain ⟨y, hy⟩ : ∃ y, O[j]? = some y := ⟨_, List.getElem?_eq_getElem (by have := HO.out; omega)⟩
            have oy := HOe.out.ok hy
            obtain ⟨b', off', hbe, -, hoc⟩ := Hoc.out (by have := HO.out; omega)
            obtain ⟨rfl, rfl⟩ : g = b' ∧ 0 = off' := by simpa using hbe
            clear hbe
            have hcy := hoc j y hy
            simp only [Nat.zero_add] at hcy
            have dd := fun x : Later wr => hcy x.it (below_chain hbi x.ok)
            have dd0 := fun x => (dd x).1
            have dd1 := fun x => (dd x).2.1
            have dd2 := fun x => (dd x).2.2
            have j1 : (j : Int) < m := by omega
            have e1 := List.getElem?_eq_some_iff.1 hy
            have E1 := Lib.hid e1
            have Hy := Lib.hid hy
            have Hcy := Lib.hid hcy
            clear dd hoc hy e1 hcy
            go_wp2_with fail
            refine wp_region_below (by kernel_rfl) (by kernel_rfl) ?_
            repeat (first | go_big_quiet_skip | (go_big_quiet_want; go_big_quiet_op; go_big_quiet_on) | (go_big_quiet_want; go_big_quiet_op; apply Exists.intro; refine ⟨fun x => ?_, ?_⟩; (first | (go_at_call 31; exact calls_below x (ref_Less y (x1, x2, x3) _ oy oe))); go_big_quiet_on))
            refine wpQuiet_nil ?_
            intro _ hx
            obtain ⟨⟨w1, hb1⟩, rfl⟩ := hx
            rename_i wj
            rcases hls : lessE y (x1, x2, x3) with _ | _
            · -- its place
              have hpe : posE (x1, x2, x3) O = j := posE_eq (by have := HO.out; omega) Hpos.out (fun hk => by rw [E1.out.2]; exact hls)
              obtain ⟨y1, y2, y3⟩ := y
              obtain ⟨c0, c1, c2⟩ := Hce.out wj (below_chain (below_chain hbr hbi) hb1)
              obtain ⟨d0, d1, d2⟩ := Hcy.out wj (below_chain hbi hb1)
              simp only [] at d0 d1 d2
              clear cc0 cc1 cc2 dd0 dd1 dd2
              have jne : ¬ (j : Int) = m := by omega
              by_cases heq : y1 = x1 ∧ y2 = x2 ∧ y3 = x3
              · obtain ⟨rfl, rfl, rfl⟩ := heq
                have hst2 := insE_there hpe Hy.out
                go_wp2_with fail
                go_quiet (fail)
                go_wp2
                go_roundw
                case rel => exact ⟨k + 1, m, by omega, by omega, by go_num, by rw [hst, hst2]; exact own_next Hown.out (below_drewN (below_chain hbi hb1) _), by rw [hst, hst2]; exact HO.out, below_drewN (below_chain hbr (below_chain hbi hb1)) _⟩
                case measure => simp [intOf]; omega
              · have hne : (!decide (y1 = x1) || (!decide (y2 = x2) || !decide (y3 = x3))) = true := by
                  simp; omega
                have hins := insE_at hpe (by rw [Hy.out]; intro h; exact heq (by simpa using h))
                have s1 : (j : Int) ≤ cap := by omega
                have s2 : ¬ cap = j := by omega
                go_wp2_with fail
                go_quiet (fail)
                go_wp2_with fail
                clear c0 c1 c2 d0 d1 d2
                have hbi := below_drewN (below_chain hbi hb1) nq
                generalize wj.drewN nq = wi at hbi ⊢
                clear hb1
                have HT := Lib.hid (show ∀ w', Below wi.heap.size wi w' → Reads w' (.slice (some ⟨g, 0, none⟩) j cap) 3 j (entsC (O.take j)) from fun w' hb => sort_HT HOe.out HO.out hj w' (below_chain hbi hb))
                have HD := Lib.hid (show ∀ w', Below wi.heap.size wi w' → Reads w' (.slice (some ⟨g, j * 3, none⟩) (m - j) (cap - j)) 3 (m - j) (entsC (O.drop j)) from fun w' hb => sort_HD HOe.out HO.out hjm w' (below_chain hbi hb))
                have hc3 := fun w' hb => Hce.out w' (below_chain (below_chain hbr hbi) hb)
                have HS := Lib.hid (sort_held (x1 := x1) (x2 := x2) (x3 := x3) (p0 := ⟨b, off + k * 3, none⟩) (p1 := ⟨b, off + k * 3 + 1, none⟩) (p2 := ⟨b, off + k * 3 + 2, none⟩) hc3)
                go_region_held3 (fun w' => Below wi.heap.size wi w' ∧ w'.cell? ⟨b, off + k * 3, none⟩ = some (.int .u64 x1) ∧ w'.cell? ⟨b, off + k * 3 + 1, none⟩ = some (.int .i64 x2) ∧ w'.cell? ⟨b, off + k * 3 + 2, none⟩ = some (.int .i64 x3)) (first | (exact HS.out _ hb3) | (exact HS.out _ hb2) | (exact HS.out _ hb1) | (exact HS.out _ (hb1.alloc hb1.size _)) | (exact HS.out _ (Below.refl _ _)) | (exact HS.out _ (Below.refl _ _).drew) | (exact HS.out _ ((Below.refl _ _).drew.alloc (Nat.le_refl _) _)) | fail)
                  (first
                    | (refine step_append_reads rfl _ _ 22 rfl wi.heap.size 25 i0 _ 3 24 Try.underlying22 hi0 hz0 hz1 hz2 rfl (by decide) (.slice none 0 0) 0 [] rfl (World.ownsRow_nil _ _ _ _) _ j _ rfl (HT.out _ (by first | exact (Below.refl _ _).drew | exact (Below.refl _ _).drew.alloc (Nat.le_refl _) _)) (entsC_one _) (by unfold maxLen; omega) (by omega) (Below.size (B := wi.heap.size) (w := wi) (by first | exact (Below.refl _ _).drew | exact (Below.refl _ _).drew.alloc (Nat.le_refl _) _)) ?_; intro v1 w1 hown1 hg1; have hs1 := (Below.refl _ _).grown hg1 (Nat.le_refl _) (by intro k hk; cases hk); have hb1 : Below wi.heap.size wi w1 := Below.grown (w := _) (by first | exact (Below.refl _ _).drew | exact (Below.refl _ _).drew.alloc (Nat.le_refl _) _) hg1 (Below.size (B := wi.heap.size) (w := wi) (by first | exact (Below.refl _ _).drew | exact (Below.refl _ _).drew.alloc (Nat.le_refl _) _)) (by intro k hk; cases hk))
                    | (refine step_append_reads rfl _ _ 22 rfl wi.heap.size 25 i0 _ 3 24 Try.underlying22 hi0 hz0 hz1 hz2 rfl (by decide) v1 _ _ rfl (by first | exact hown1 | exact own_next hown1 (below_lit _ _)) _ 1 (entsC [(x1, x2, x3)]) rfl (by first | exact (ents_lit _ _ oe).1 | exact (ents_lit _ _ oe).1.next hs1 | exact (Reads.drew' (ents_lit _ _ oe).1).next hs1) (entsC_one _) (by unfold maxLen; omega) (by omega) (Below.size (B := wi.heap.size) (w := wi) (by first | exact hb1 | exact hb1.alloc hb1.size _)) ?_; intro v2 w2 hown2 hg2; have hb2 : Below wi.heap.size wi w2 := Below.grown (by first | exact hb1 | exact hb1.alloc hb1.size _) hg2 (Below.size (B := wi.heap.size) (w := wi) (by first | exact hb1 | exact hb1.alloc hb1.size _)) (own_block_ge hown1))
                    | (refine step_append_reads rfl _ _ 22 rfl wi.heap.size 25 i0 _ 3 24 Try.underlying22 hi0 hz0 hz1 hz2 rfl (by decide) v2 _ _ rfl hown2 _ (m - j) _ rfl (HD.out _ hb2) (entsC_one _) (by unfold maxLen; omega) (by omega) hb2.size ?_; intro v3 w3 hown3 hg3; have hb3 : Below wi.heap.size wi w3 := hb2.grown hg3 hb2.size (own_block_ge hown2))
                    | fail)
                · go_wp2
                  go_roundw
                  case rel => exact ⟨k + 1, m + 1, by omega, by omega, by go_num, by rw [hst]; exact own_base (sort_rel hown3 hj HO.out hins).1 (Nat.le_trans hbr.size hbi.size), by rw [hst]; exact (sort_rel hown3 hj HO.out hins).2, below_chain hbr (below_chain hbi hb3)⟩
                  case measure => simp [intOf]; omega
                · go_wp2
                  go_roundw
                  case rel => exact ⟨k + 1, m + 1, by omega, by omega, by go_num, by rw [hst]; exact own_base (sort_rel hown3 hj HO.out hins).1 (Nat.le_trans hbr.size hbi.size), by rw [hst]; exact (sort_rel hown3 hj HO.out hins).2, below_chain hbr (below_chain hbi hb3)⟩
                  case measure => simp [intOf]; omega
            · go_wp2
              go_roundw
              case rel =>
                refine ⟨j + 1, by omega, by go_num, fun i hi hij => ?_, below_chain hbi hb1⟩
                rcases Nat.lt_or_ge i j with h7 | h7
                · exact Hpos.out i hi h7
                · obtain rfl : i = j := by omega
                  rw [E1.out.2]; exact hls
              case measure => simp [intOf]; omega
          · obtain rfl : j = m := by omega
            have hpe : posE (x1, x2, x3) O = j := posE_eq (by have := HO.out; omega) Hpos.out (fun hk => absurd hk (by have := HO.out; omega))
            have hins := insE_at hpe (by rw [List.getElem?_eq_none (by have := HO.out; omega)]; simp)
            have hdr : O.drop j = [] := List.drop_eq_nil_of_le (by have := HO.out; omega)
            have hdr2 : entsC (O.drop j) = [] := by rw [hdr]; rfl
            have Hdr := Lib.hid hdr2
            clear hdr hdr2
            by_cases s2 : cap = j
            · go_wp2_with fail
              refine wp_region_below (by kernel_rfl) (by kernel_rfl) ?_
              repeat (first | go_big_quiet_skip | (go_big_quiet_want; go_big_quiet_op; go_big_quiet_on) | (go_big_quiet_want; go_big_quiet_op; apply Exists.intro; refine ⟨fun x => ?_, ?_⟩; (fail); go_big_quiet_on))
              refine wpQuiet_nil ?_
              intro _ hx
              obtain ⟨⟨w1, hb1⟩, rfl⟩ := hx
              rename_i wj
              go_wp2_with fail
              go_quiet (fail)
              go_wp2_with fail
              clear cc0 cc1 cc2
              have hbi := below_drewN (below_chain hbi hb1) nq
              generalize wj.drewN nq = wi at hbi ⊢
              clear hb1
              have HT := Lib.hid (show ∀ w', Below wi.heap.size wi w' → Reads w' (.slice (some ⟨g, 0, none⟩) j j) 3 j (entsC (O.take j)) from fun w' hb => by have h := sort_HT HOe.out HO.out hj w' (below_chain hbi hb); rw [s2] at h; exact h)
              have HD := Lib.hid (show ∀ w', Below wi.heap.size wi w' → Reads w' (.slice (some ⟨g, 0, none⟩) 0 0) 3 (j - j) (entsC (O.drop j)) from fun w' hb => by rw [Nat.sub_self, Hdr.out]; exact reads_none _ _ _ (by unfold maxLen; omega))
              have hc3 := fun w' hb => Hce.out w' (below_chain (below_chain hbr hbi) hb)
              have HS := Lib.hid (sort_held (x1 := x1) (x2 := x2) (x3 := x3) (p0 := ⟨b, off + k * 3, none⟩) (p1 := ⟨b, off + k * 3 + 1, none⟩) (p2 := ⟨b, off + k * 3 + 2, none⟩) hc3)
              go_region_held3 (fun w' => Below wi.heap.size wi w' ∧ w'.cell? ⟨b, off + k * 3, none⟩ = some (.int .u64 x1) ∧ w'.cell? ⟨b, off + k * 3 + 1, none⟩ = some (.int .i64 x2) ∧ w'.cell? ⟨b, off + k * 3 + 2, none⟩ = some (.int .i64 x3)) (first | (exact HS.out _ hb3) | (exact HS.out _ hb2) | (exact HS.out _ hb1) | (exact HS.out _ (hb1.alloc hb1.size _)) | (exact HS.out _ (Below.refl _ _)) | (exact HS.out _ (Below.refl _ _).drew) | (exact HS.out _ ((Below.refl _ _).drew.alloc (Nat.le_refl _) _)) | fail)
                (first
                  | (refine step_append_reads rfl _ _ 22 rfl wi.heap.size 25 i0 _ 3 24 Try.underlying22 hi0 hz0 hz1 hz2 rfl (by decide) (.slice none 0 0) 0 [] rfl (World.ownsRow_nil _ _ _ _) _ j _ rfl (HT.out _ (by first | exact (Below.refl _ _).drew | exact (Below.refl _ _).drew.alloc (Nat.le_refl _) _)) (entsC_one _) (by unfold maxLen; omega) (by omega) (Below.size (B := wi.heap.size) (w := wi) (by first | exact (Below.refl _ _).drew | exact (Below.refl _ _).drew.alloc (Nat.le_refl _) _)) ?_; intro v1 w1 hown1 hg1; have hs1 := (Below.refl _ _).grown hg1 (Nat.le_refl _) (by intro k hk; cases hk); have hb1 : Below wi.heap.size wi w1 := Below.grown (w := _) (by first | exact (Below.refl _ _).drew | exact (Below.refl _ _).drew.alloc (Nat.le_refl _) _) hg1 (Below.size (B := wi.heap.size) (w := wi) (by first | exact (Below.refl _ _).drew | exact (Below.refl _ _).drew.alloc (Nat.le_refl _) _)) (by intro k hk; cases hk))
                  | (refine step_append_reads rfl _ _ 22 rfl wi.heap.size 25 i0 _ 3 24 Try.underlying22 hi0 hz0 hz1 hz2 rfl (by decide) v1 _ _ rfl (by first | exact hown1 | exact own_next hown1 (below_lit _ _)) _ 1 (entsC [(x1, x2, x3)]) rfl (by first | exact (ents_lit _ _ oe).1 | exact (ents_lit _ _ oe).1.next hs1 | exact (Reads.drew' (ents_lit _ _ oe).1).next hs1) (entsC_one _) (by unfold maxLen; omega) (by omega) (Below.size (B := wi.heap.size) (w := wi) (by first | exact hb1 | exact hb1.alloc hb1.size _)) ?_; intro v2 w2 hown2 hg2; have hb2 : Below wi.heap.size wi w2 := Below.grown (by first | exact hb1 | exact hb1.alloc hb1.size _) hg2 (Below.size (B := wi.heap.size) (w := wi) (by first | exact hb1 | exact hb1.alloc hb1.size _)) (own_block_ge hown1))
                  | (refine step_append_reads rfl _ _ 22 rfl wi.heap.size 25 i0 _ 3 24 Try.underlying22 hi0 hz0 hz1 hz2 rfl (by decide) v2 _ _ rfl hown2 _ (j - j) _ rfl (HD.out _ hb2) (entsC_one _) (by unfold maxLen; omega) (by omega) hb2.size ?_; intro v3 w3 hown3 hg3; have hb3 : Below wi.heap.size wi w3 := hb2.grown hg3 hb2.size (own_block_ge hown2))
                  | fail)
              · go_wp2
                go_roundw
                case rel => exact ⟨k + 1, j + 1, by omega, by omega, by go_num, by rw [hst]; exact own_base (sort_rel hown3 hj HO.out hins).1 (Nat.le_trans hbr.size hbi.size), by rw [hst]; exact (sort_rel hown3 hj HO.out hins).2, below_chain hbr (below_chain hbi hb3)⟩
                case measure => simp [intOf]; omega
              · go_wp2
                go_roundw
                case rel => exact ⟨k + 1, j + 1, by omega, by omega, by go_num, by rw [hst]; exact own_base (sort_rel hown3 hj HO.out hins).1 (Nat.le_trans hbr.size hbi.size), by rw [hst]; exact (sort_rel hown3 hj HO.out hins).2, below_chain hbr (below_chain hbi hb3)⟩
                case measure => simp [intOf]; omega
            · have s1 : (j : Int) ≤ cap := by omega
              go_wp2_with fail
              refine wp_region_below (by kernel_rfl) (by kernel_rfl) ?_
              repeat (first | go_big_quiet_skip | (go_big_quiet_want; go_big_quiet_op; go_big_quiet_on) | (go_big_quiet_want; go_big_quiet_op; apply Exists.intro; refine ⟨fun x => ?_, ?_⟩; (fail); go_big_quiet_on))
              refine wpQuiet_nil ?_
              intro _ hx
              obtain ⟨⟨w1, hb1⟩, rfl⟩ := hx
              rename_i wj
              go_wp2_with fail
              go_quiet (fail)
              go_wp2_with fail
              clear cc0 cc1 cc2
              have hbi := below_drewN (below_chain hbi hb1) nq
              generalize wj.drewN nq = wi at hbi ⊢
              clear hb1
              have HT := Lib.hid (show ∀ w', Below wi.heap.size wi w' → Reads w' (.slice (some ⟨g, 0, none⟩) j cap) 3 j (entsC (O.take j)) from fun w' hb => sort_HT HOe.out HO.out hj w' (below_chain hbi hb))
              have HD := Lib.hid (show ∀ w', Below wi.heap.size wi w' → Reads w' (.slice (some ⟨g, j * 3, none⟩) 0 (cap - j)) 3 (j - j) (entsC (O.drop j)) from fun w' hb => by rw [Nat.sub_self, Hdr.out]; exact reads_none _ _ _ (by unfold maxLen; omega))
              have hc3 := fun w' hb => Hce.out w' (below_chain (below_chain hbr hbi) hb)
              have HS := Lib.hid (sort_held (x1 := x1) (x2 := x2) (x3 := x3) (p0 := ⟨b, off + k * 3, none⟩) (p1 := ⟨b, off + k * 3 + 1, none⟩) (p2 := ⟨b, off + k * 3 + 2, none⟩) hc3)
              go_region_held3 (fun w' => Below wi.heap.size wi w' ∧ w'.cell? ⟨b, off + k * 3, none⟩ = some (.int .u64 x1) ∧ w'.cell? ⟨b, off + k * 3 + 1, none⟩ = some (.int .i64 x2) ∧ w'.cell? ⟨b, off + k * 3 + 2, none⟩ = some (.int .i64 x3)) (first | (exact HS.out _ hb3) | (exact HS.out _ hb2) | (exact HS.out _ hb1) | (exact HS.out _ (hb1.alloc hb1.size _)) | (exact HS.out _ (Below.refl _ _)) | (exact HS.out _ (Below.refl _ _).drew) | (exact HS.out _ ((Below.refl _ _).drew.alloc (Nat.le_refl _) _)) | fail)
                (first
                  | (refine step_append_reads rfl _ _ 22 rfl wi.heap.size 25 i0 _ 3 24 Try.underlying22 hi0 hz0 hz1 hz2 rfl (by decide) (.slice none 0 0) 0 [] rfl (World.ownsRow_nil _ _ _ _) _ j _ rfl (HT.out _ (by first | exact (Below.refl _ _).drew | exact (Below.refl _ _).drew.alloc (Nat.le_refl _) _)) (entsC_one _) (by unfold maxLen; omega) (by omega) (Below.size (B := wi.heap.size) (w := wi) (by first | exact (Below.refl _ _).drew | exact (Below.refl _ _).drew.alloc (Nat.le_refl _) _)) ?_; intro v1 w1 hown1 hg1; have hs1 := (Below.refl _ _).grown hg1 (Nat.le_refl _) (by intro k hk; cases hk); have hb1 : Below wi.heap.size wi w1 := Below.grown (w := _) (by first | exact (Below.refl _ _).drew | exact (Below.refl _ _).drew.alloc (Nat.le_refl _) _) hg1 (Below.size (B := wi.heap.size) (w := wi) (by first | exact (Below.refl _ _).drew | exact (Below.refl _ _).drew.alloc (Nat.le_refl _) _)) (by intro k hk; cases hk))
                  | (refine step_append_reads rfl _ _ 22 rfl wi.heap.size 25 i0 _ 3 24 Try.underlying22 hi0 hz0 hz1 hz2 rfl (by decide) v1 _ _ rfl (by first | exact hown1 | exact own_next hown1 (below_lit _ _)) _ 1 (entsC [(x1, x2, x3)]) rfl (by first | exact (ents_lit _ _ oe).1 | exact (ents_lit _ _ oe).1.next hs1 | exact (Reads.drew' (ents_lit _ _ oe).1).next hs1) (entsC_one _) (by unfold maxLen; omega) (by omega) (Below.size (B := wi.heap.size) (w := wi) (by first | exact hb1 | exact hb1.alloc hb1.size _)) ?_; intro v2 w2 hown2 hg2; have hb2 : Below wi.heap.size wi w2 := Below.grown (by first | exact hb1 | exact hb1.alloc hb1.size _) hg2 (Below.size (B := wi.heap.size) (w := wi) (by first | exact hb1 | exact hb1.alloc hb1.size _)) (own_block_ge hown1))
                  | (refine step_append_reads rfl _ _ 22 rfl wi.heap.size 25 i0 _ 3 24 Try.underlying22 hi0 hz0 hz1 hz2 rfl (by decide) v2 _ _ rfl hown2 _ (j - j) _ rfl (HD.out _ hb2) (entsC_one _) (by unfold maxLen; omega) (by omega) hb2.size ?_; intro v3 w3 hown3 hg3; have hb3 : Below wi.heap.size wi w3 := hb2.grown hg3 hb2.size (own_block_ge hown2))
                  | fail)
              · go_wp2
                go_roundw
                case rel => exact ⟨k + 1, j + 1, by omega, by omega, by go_num, by rw [hst]; exact own_base (sort_rel hown3 hj HO.out hins).1 (Nat.le_trans hbr.size hbi.size), by rw [hst]; exact (sort_rel hown3 hj HO.out hins).2, below_chain hbr (below_chain hbi hb3)⟩
                case measure => simp [intOf]; omega
              · go_wp2
                go_roundw
                case rel => exact ⟨k + 1, j + 1, by omega, by omega, by go_num, by rw [hst]; exact own_base (sort_rel hown3 hj HO.out hins).1 (Nat.le_trans hbr.size hbi.size), by rw [hst]; exact (sort_rel hown3 hj HO.out hins).2, below_chain hbr (below_chain hbi hb3)⟩
                case measure => simp [intOf]; omega
    · have hx := hown
      rw [List.take_of_length_le (by have := Hn.out; omega)] at hx hp
      rw [← hp] at hx
      go_wp2
      go_ret
      exact ⟨_, rfl, hx, hbr⟩
end Go.Proofs.Ytikodobglhjoiaa
