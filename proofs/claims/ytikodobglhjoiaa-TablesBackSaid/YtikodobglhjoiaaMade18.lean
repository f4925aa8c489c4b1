/-
  TABLES' law: sorted entries, each once, out of any.
-/
import Derived.Test.YtikodobglhjoiaaEntSort
namespace Go.Proofs.Ytikodobglhjoiaa
open Go.RowKit
set_option linter.unusedVariables false

def modE (e : Ent) : Ent := (e.1 % 7 * 1000003, e.2.1 % 64, e.2.2 % 1024)
theorem okE_mod (e : Ent) : okE (modE e) := by
  unfold okE modE; simp only []; omega
theorem bits_low (v : Int) (k : Nat) (hk : k ≤ 20) : bits BinOp.and IntKind.i64 v ((2 : Int) ^ k - 1) = v % 2 ^ k := by
  have hp : (2 : Int) ^ k = ((2 ^ k : Nat) : Int) := by simp
  have hk2 : (2 : Nat) ^ k ≤ 2 ^ 20 := Nat.pow_le_pow_right (by omega) hk
  have hk3 : 0 < (2 : Nat) ^ k := Nat.pow_pos (by omega)
  have h3 : (2 : Nat) ^ k ∣ 2 ^ 64 := Nat.pow_dvd_pow 2 (by omega)
  have e1 : (BitVec.ofInt 64 v &&& BitVec.ofInt 64 ((2 : Int) ^ k - 1)).toNat = (v % 2 ^ k).toNat := by
    rw [BitVec.toNat_and, BitVec.toNat_ofInt, BitVec.toNat_ofInt, hp]
    have h2 : (((2 ^ k : Nat) : Int) - 1) % ((2 ^ 64 : Nat) : Int) = ((2 ^ k - 1 : Nat) : Int) := by omega
    rw [h2, Int.toNat_natCast, Nat.and_two_pow_sub_one_eq_mod]
    have h4 : (v % ((2 ^ 64 : Nat) : Int)).toNat % 2 ^ k = (v % ((2 ^ 64 : Nat) : Int) % ((2 ^ k : Nat) : Int)).toNat := by
      rw [Int.toNat_emod (Int.emod_nonneg _ (by decide)) (by omega), Int.toNat_natCast]
    rw [h4, Int.emod_emod_of_dvd _ (Int.natCast_dvd_natCast.2 h3)]
  change IntKind.i64.wrap ((BitVec.ofInt 64 v &&& BitVec.ofInt 64 ((2 : Int) ^ k - 1)).toNat : Nat) = v % 2 ^ k
  rw [e1, hp, IntKind.wrap_i64]
  have h5 := Int.emod_nonneg v (b := ((2 ^ k : Nat) : Int)) (by omega)
  have h6 := Int.emod_lt_of_pos v (b := ((2 ^ k : Nat) : Int)) (by omega)
  omega
theorem bits63 (v : Int) : bits BinOp.and IntKind.i64 v 63 = v % 64 := bits_low v 6 (by omega)
theorem bits1023 (v : Int) : bits BinOp.and IntKind.i64 v 1023 = v % 1024 := bits_low v 10 (by omega)

set_option maxHeartbeats 2000000 in
theorem law_Made (v : Value) (l : List Ent) (w : World) (hl : Ents w v l) (hn : l.length ≤ 1000000000) :
    Calls Try.prog 51 #[v] w fun e w' => ∃ v', e = .returned v' ∧ w'.ownsRow w.heap.size 25 3 v' (sortE (l.map modE)).length (entsC (sortE (l.map modE))) ∧ Below w.heap.size w w' := by
  obtain ⟨⟨A, c, rfl, -, -, -, -⟩, -⟩ := id hl
  obtain ⟨-, h1, h2, -⟩ := hl.cells
  unfold maxLen at h2
  obtain ⟨i0, hi0, hz0, hz1, hz2⟩ := info_parts infoEnt
  have hok := fun (i : Nat) (e : Ent) (hi : l[i]? = some e) => hl.ok hi
  have hcell := fun h0 => hl.later h0
  have hall := hl.2
  obtain ⟨n, hn'⟩ : ∃ n, n = l.length := ⟨_, rfl⟩
  rw [← hn'] at h1 hn
  rw [← hn'] at hl ⊢
  have Hn := Lib.hid hn'
  have Hok := Lib.hid hok
  have Hcell := Lib.hid hcell
  have Hall := Lib.hid hall
  clear hok hcell hn' hl hall
  go_enter Try.func51, Try.ntmps51
  go_wp2_with fail
  go_loopw [3, 4] (fun o i wr => ∃ k m : Nat, k ≤ n ∧ m ≤ k ∧ i = .int .i64 (k : Int) ∧ wr.ownsRow w.heap.size 25 3 o m (entsC (sortE ((l.map modE).take k))) ∧ (sortE ((l.map modE).take k)).length = m ∧ Below w.heap.size w wr) (fun _ i _ => n - (intOf i).toNat)
  case atStart => exact ⟨0, 0, by omega, by omega, rfl, World.ownsRow_nil _ _ _ _, rfl, Below.refl _ _⟩
  case round =>
    obtain ⟨k, m, hk, hm, rfl, hown, hp, hbr⟩ := hrel
    by_cases hlt : k < n
    · obtain ⟨e, he⟩ : ∃ e, l[k]? = some e := ⟨_, List.getElem?_eq_getElem (by have := Hn.out; omega)⟩
      have oe := Hok.out k e he
      have hst := sortE_take_succ (l := l.map modE) (k := k) (e := modE e) (by rw [List.getElem?_map, he]; rfl)
      have hOok : ∀ x ∈ sortE ((l.map modE).take k), okE x := fun x hx => by obtain ⟨y, -, rfl⟩ := List.mem_map.1 (List.mem_of_mem_take (mem_sortE.1 hx)); exact okE_mod y
      obtain ⟨b, off, rfl, hlt0, hcell⟩ := Hcell.out (by have := Hn.out; omega)
      have hce := hcell k e he
      generalize sortE ((l.map modE).take k) = O at hown hp hst hOok
      have hO := Ents.of_own hown hp hOok
      have HO := Lib.hid hp
      obtain ⟨x1, x2, x3⟩ := e
      simp only [] at hce
      have i1 : (k : Int) < n := by omega
      clear he hcell hOok hp
      go_wp2_with fail
      have HS := Lib.hid (sort_held (x1 := x1) (x2 := x2) (x3 := x3) (p0 := ⟨b, off + k * 3, none⟩) (p1 := ⟨b, off + k * 3 + 1, none⟩) (p2 := ⟨b, off + k * 3 + 2, none⟩) (fun w' hb => hce w' (below_chain hbr hb)))
      have t1 := bits63 x2
      have t2 := bits1023 x3
      go_region_held3 (fun w' => Below wr.heap.size wr w' ∧ w'.cell? ⟨b, off + k * 3, none⟩ = some (.int .u64 x1) ∧ w'.cell? ⟨b, off + k * 3 + 1, none⟩ = some (.int .i64 x2) ∧ w'.cell? ⟨b, off + k * 3 + 2, none⟩ = some (.int .i64 x3)) (first | (exact HS.out _ (below_lit wr _).drew) | (exact HS.out _ (Below.refl _ _).drew) | (exact HS.out _ (Below.refl _ _)) | fail) (first | fail)
      rename_i hHeld
      clear hHeld HS t1 t2 hce Hcell hlt0
      have hx := fun w' hb => ent_box wr (modE (x1, x2, x3)) 25 w' hb
      have hbx : Below wr.heap.size wr (wr.alloc (.cells (entC (modE (x1, x2, x3))) 25)).drew := (below_lit _ _).drew
      have hxd : ∀ w', Below ((wr.alloc (.cells (entC (modE (x1, x2, x3))) 25)).drew).heap.size ((wr.alloc (.cells (entC (modE (x1, x2, x3))) 25)).drew) w' → w'.cell? ⟨wr.heap.size, 0, none⟩ = some (.int .u64 (modE (x1, x2, x3)).1) ∧ w'.cell? ⟨wr.heap.size, 1, none⟩ = some (.int .i64 (modE (x1, x2, x3)).2.1) ∧ w'.cell? ⟨wr.heap.size, 2, none⟩ = some (.int .i64 (modE (x1, x2, x3)).2.2) := fun w' hb => hx w' (below_chain (Below.refl _ _).drew hb)
      have oq := okE_mod (x1, x2, x3)
      have e1 : IntKind.u64.wrap ((x1 : Int).tmod 7 * 1000003) = ((x1 % 7 * 1000003 : Nat) : Int) := by
        rw [Int.tmod_eq_emod_of_nonneg (by omega), IntKind.wrap_u64]; omega
      simp only [e1]
      clear e1 hx
      obtain ⟨q1, hq1⟩ : ∃ q1, q1 = x1 % 7 * 1000003 := ⟨_, rfl⟩
      obtain ⟨q2, hq2⟩ : ∃ q2, q2 = x2 % 64 := ⟨_, rfl⟩
      obtain ⟨q3, hq3⟩ : ∃ q3, q3 = x3 % 1024 := ⟨_, rfl⟩
      have hm3 : modE (x1, x2, x3) = (q1, q2, q3) := by unfold modE; rw [hq1, hq2, hq3]
      rw [hm3] at hbx hxd oq hst
      rw [← hq1, ← hq2, ← hq3]
      clear hm3 hq1 hq2 hq3
      simp only [entC] at hbx hxd
      generalize (wr.alloc (.cells #[.int .u64 q1, .int .i64 q2, .int .i64 q3] 25)).drew = wx at hbx hxd ⊢
      have hown := own_next hown hbx
      have hO := hO.next hbx
      obtain ⟨gx, hgx⟩ : ∃ gx, gx = wr.heap.size := ⟨_, rfl⟩
      rw [← hgx] at hxd ⊢
      clear hgx
      have hce := hxd
      clear hxd oe
      have oe := oq
      clear oq
      rcases hown.2 with ⟨rfl, rfl⟩ | ⟨g, cap, cur, rfl, hbg, hg, hnc, hcm, -, -⟩
      · obtain rfl := List.eq_nil_of_length_eq_zero HO.out
        have Hce := Lib.hid hce
        clear hce
        go_wp2_with fail
        go_loopw [6] (fun j wi => j = .int .i64 0 ∧ Below wx.heap.size wx wi) (fun j _ => 0)
        case atStart => exact ⟨rfl, Below.refl _ _⟩
        case round =>
          obtain ⟨rfl, hbi⟩ := hrel
          have cc := fun x : Later wr => Hce.out x.it (below_chain hbi x.ok)
          have cc0 := fun x => (cc x).1
          have cc1 := fun x => (cc x).2.1
          have cc2 := fun x => (cc x).2.2
          clear cc
          go_wp2_with fail
          refine wp_region_below (by kernel_rfl) (by kernel_rfl) ?_
          repeat (first | go_big_quiet_skip | (go_big_quiet_want; go_big_quiet_op; go_big_quiet_on) | (go_big_quiet_want; go_big_quiet_op; apply Exists.intro; refine ⟨fun x => ?_, ?_⟩; (fail); go_big_quiet_on))
          refine wpQuiet_nil ?_
          intro _ hx
          obtain ⟨⟨w1, hb1⟩, rfl⟩ := hx
          rename_i wj
          go_wp2_with fail
          go_quiet (fail)
          go_wp2_with fail
          have hbi := below_drewN (below_chain hbi hb1) nq
          generalize wj.drewN nq = wi at hbi ⊢
          clear hb1
          have hj : 0 ≤ 0 := Nat.le_refl _
          have hins : insE ([] : List Ent) (q1, q2, q3) = ([] : List Ent).take 0 ++ (q1, q2, q3) :: ([] : List Ent).drop 0 := rfl
          have HT := Lib.hid (show ∀ w', Below wi.heap.size wi w' → Reads w' (.slice none 0 0) 3 0 (entsC (([] : List Ent).take 0)) from fun w' hb => Reads.nil _ _)
          have HD := Lib.hid (show ∀ w', Below wi.heap.size wi w' → Reads w' (.slice none 0 0) 3 0 (entsC (([] : List Ent).drop 0)) from fun w' hb => Reads.nil _ _)
          have hc3 := fun w' hb => Hce.out w' (below_chain hbi hb)
          have HS := Lib.hid (sort_held (x1 := q1) (x2 := q2) (x3 := q3) (p0 := ⟨gx, 0, none⟩) (p1 := ⟨gx, 1, none⟩) (p2 := ⟨gx, 2, none⟩) hc3)
          go_region_held3 (fun w' => Below wi.heap.size wi w' ∧ w'.cell? ⟨gx, 0, none⟩ = some (.int .u64 q1) ∧ w'.cell? ⟨gx, 1, none⟩ = some (.int .i64 q2) ∧ w'.cell? ⟨gx, 2, none⟩ = some (.int .i64 q3)) (first | (exact HS.out _ hb3) | (exact HS.out _ hb2) | (exact HS.out _ hb1) | (exact HS.out _ (hb1.alloc hb1.size _)) | (exact HS.out _ (Below.refl _ _)) | (exact HS.out _ (Below.refl _ _).drew) | (exact HS.out _ ((Below.refl _ _).drew.alloc (Nat.le_refl _) _)) | fail)
            (first
              | (refine step_append_reads rfl _ _ 22 rfl wi.heap.size 25 i0 _ 3 24 Try.underlying22 hi0 hz0 hz1 hz2 rfl (by decide) (.slice none 0 0) 0 [] rfl (World.ownsRow_nil _ _ _ _) _ 0 _ rfl (HT.out _ (by first | exact (Below.refl _ _).drew | exact (Below.refl _ _).drew.alloc (Nat.le_refl _) _)) (entsC_one _) (by unfold maxLen; omega) (by omega) (Below.size (B := wi.heap.size) (w := wi) (by first | exact (Below.refl _ _).drew | exact (Below.refl _ _).drew.alloc (Nat.le_refl _) _)) ?_; intro v1 w1 hown1 hg1; have hs1 := (Below.refl _ _).grown hg1 (Nat.le_refl _) (by intro k hk; cases hk); have hb1 : Below wi.heap.size wi w1 := Below.grown (w := _) (by first | exact (Below.refl _ _).drew | exact (Below.refl _ _).drew.alloc (Nat.le_refl _) _) hg1 (Below.size (B := wi.heap.size) (w := wi) (by first | exact (Below.refl _ _).drew | exact (Below.refl _ _).drew.alloc (Nat.le_refl _) _)) (by intro k hk; cases hk))
              | (refine step_append_reads rfl _ _ 22 rfl wi.heap.size 25 i0 _ 3 24 Try.underlying22 hi0 hz0 hz1 hz2 rfl (by decide) v1 _ _ rfl (by first | exact hown1 | exact own_next hown1 (below_lit _ _)) _ 1 (entsC [(q1, q2, q3)]) rfl (by first | exact (ents_lit _ _ oe).1 | exact (ents_lit _ _ oe).1.next hs1 | exact (Reads.drew' (ents_lit _ _ oe).1).next hs1) (entsC_one _) (by unfold maxLen; omega) (by omega) (Below.size (B := wi.heap.size) (w := wi) (by first | exact hb1 | exact hb1.alloc hb1.size _)) ?_; intro v2 w2 hown2 hg2; have hb2 : Below wi.heap.size wi w2 := Below.grown (by first | exact hb1 | exact hb1.alloc hb1.size _) hg2 (Below.size (B := wi.heap.size) (w := wi) (by first | exact hb1 | exact hb1.alloc hb1.size _)) (own_block_ge hown1))
              | (refine step_append_reads rfl _ _ 22 rfl wi.heap.size 25 i0 _ 3 24 Try.underlying22 hi0 hz0 hz1 hz2 rfl (by decide) v2 _ _ rfl hown2 _ 0 _ rfl (HD.out _ hb2) (entsC_one _) (by unfold maxLen; omega) (by omega) hb2.size ?_; intro v3 w3 hown3 hg3; have hb3 : Below wi.heap.size wi w3 := hb2.grown hg3 hb2.size (own_block_ge hown2))
              | fail)
          · go_wp2
            go_roundw
            case rel => exact ⟨k + 1, 0 + 1, by omega, by omega, by go_num, by rw [hst]; exact own_base (sort_rel hown3 hj HO.out hins).1 (Nat.le_trans (Nat.le_trans hbr.size hbx.size) hbi.size), by rw [hst]; exact (sort_rel hown3 hj HO.out hins).2, below_chain hbr (below_chain hbx (below_chain hbi hb3))⟩
            case measure => simp [intOf]; omega
          · go_wp2
            go_roundw
            case rel => exact ⟨k + 1, 0 + 1, by omega, by omega, by go_num, by rw [hst]; exact own_base (sort_rel hown3 hj HO.out hins).1 (Nat.le_trans (Nat.le_trans hbr.size hbx.size) hbi.size), by rw [hst]; exact (sort_rel hown3 hj HO.out hins).2, below_chain hbr (below_chain hbx (below_chain hbi hb3))⟩
            case measure => simp [intOf]; omega
      · have hce' := hce
        have Hce := Lib.hid hce
        clear hce
        have hoc := fun h0 => Ents.later hO h0
        have Hoc := Lib.hid hoc
        have Hown := Lib.hid hown
        have HOe := Lib.hid hO
        have hcm' := hcm
        unfold maxLen at hcm'
        clear hoc hown hO hce'
        go_wp2_with fail
        go_loopw [6] (fun j wi => ∃ jn : Nat, jn ≤ m ∧ j = .int .i64 (jn : Int) ∧ (∀ i, (hi : i < O.length) → i < jn → lessE O[i] (q1, q2, q3) = true) ∧ Below wx.heap.size wx wi) (fun j _ => m - (intOf j).toNat)
        case atStart => exact ⟨0, by omega, rfl, fun i _ h => absurd h (by omega), Below.refl _ _⟩
        case round =>
          obtain ⟨j, hj, rfl, hpos, hbi⟩ := hrel
          have Hpos := Lib.hid hpos
          clear hpos
          have cc := fun x : Later wr => Hce.out x.it (below_chain hbi x.ok)
          have cc0 := fun x => (cc x).1
          have cc1 := fun x => (cc x).2.1
          have cc2 := fun x => (cc x).2.2
          clear cc
          by_cases hjm : j < m
          · obtain ⟨y, hy⟩ : ∃ y, O[j]? = some y := ⟨_, List.getElem?_eq_getElem (by have := HO.out; omega)⟩
            have oy := HOe.out.ok hy
            obtain ⟨b', off', hbe, -, hoc⟩ := Hoc.out (by have := HO.out; omega)
            obtain ⟨rfl, rfl⟩ : g = b' ∧ 0 = off' := by simpa using hbe
            clear hbe
            have hcy := hoc j y hy
            simp only [Nat.zero_add] at hcy
            have dd := fun x : Later wr => hcy x.it (below_chain hbi x.ok)
            have dd0 := fun x => (dd x).1
            have dd1 := fun x => (dd x).2.1
            have dd2 := fun x => (dd x).2.2
            have j1 : (j : Int) < m := by omega
            have e1 := List.getElem?_eq_some_iff.1 hy
            have E1 := Lib.hid e1
            have Hy := Lib.hid hy
            have Hcy := Lib.hid hcy
            clear dd hoc hy e1 hcy
            go_wp2_with fail
            refine wp_region_below (by kernel_rfl) (by kernel_rfl) ?_
            repeat (first | go_big_quiet_skip | (go_big_quiet_want; go_big_quiet_op; go_big_quiet_on) | (go_big_quiet_want; go_big_quiet_op; apply Exists.intro; refine ⟨fun x => ?_, ?_⟩; (first | (go_at_call 30; exact calls_below x (entries_Less y (q1, q2, q3) _ oy oe))); go_big_quiet_on))
            refine wpQuiet_nil ?_
            intro _ hx
            obtain ⟨⟨w1, hb1⟩, rfl⟩ := hx
            rename_i wj
            rcases hls : lessE y (q1, q2, q3) with _ | _
            · -- its place
              have hpe : posE (q1, q2, q3) O = j := posE_eq (by have := HO.out; omega) Hpos.out (fun hk => by rw [E1.out.2]; exact hls)
              obtain ⟨y1, y2, y3⟩ := y
              obtain ⟨c0, c1, c2⟩ := Hce.out wj (below_chain hbi hb1)
              obtain ⟨d0, d1, d2⟩ := Hcy.out wj (below_chain hbi hb1)
              simp only [] at d0 d1 d2
              clear cc0 cc1 cc2 dd0 dd1 dd2
              have jne : ¬ (j : Int) = m := by omega
              by_cases heq : y1 = q1 ∧ y2 = q2 ∧ y3 = q3
              · obtain ⟨rfl, rfl, rfl⟩ := heq
                have hst2 := insE_there hpe Hy.out
                go_wp2_with fail
                go_quiet (fail)
                go_wp2
                go_roundw
                case rel => exact ⟨k + 1, m, by omega, by omega, by go_num, by rw [hst, hst2]; exact own_next Hown.out (below_drewN (below_chain hbi hb1) _), by rw [hst, hst2]; exact HO.out, below_drewN (below_chain hbr (below_chain hbx (below_chain hbi hb1))) _⟩
                case measure => simp [intOf]; omega
              · have hne : (!decide (y1 = q1) || (!decide (y2 = q2) || !decide (y3 = q3))) = true := by
                  simp; omega
                have hins := insE_at hpe (by rw [Hy.out]; intro h; exact heq (by simpa using h))
                have s1 : (j : Int) ≤ cap := by omega
                have s2 : ¬ cap = j := by omega
                go_wp2_with fail
                go_quiet (fail)
                go_wp2_with fail
                clear c0 c1 c2 d0 d1 d2
                have hbi := below_drewN (below_chain hbi hb1) nq
                generalize wj.drewN nq = wi at hbi ⊢
                clear hb1
                have HT := Lib.hid (show ∀ w', Below wi.heap.size wi w' → Reads w' (.slice (some ⟨g, 0, none⟩) j cap) 3 j (entsC (O.take j)) from fun w' hb => sort_HT HOe.out HO.out hj w' (below_chain hbi hb))
                have HD := Lib.hid (show ∀ w', Below wi.heap.size wi w' → Reads w' (.slice (some ⟨g, j * 3, none⟩) (m - j) (cap - j)) 3 (m - j) (entsC (O.drop j)) from fun w' hb => sort_HD HOe.out HO.out hjm w' (below_chain hbi hb))
                have hc3 := fun w' hb => Hce.out w' (below_chain hbi hb)
                have HS := Lib.hid (sort_held (x1 := q1) (x2 := q2) (x3 := q3) (p0 := ⟨gx, 0, none⟩) (p1 := ⟨gx, 1, none⟩) (p2 := ⟨gx, 2, none⟩) hc3)
                go_region_held3 (fun w' => Below wi.heap.size wi w' ∧ w'.cell? ⟨gx, 0, none⟩ = some (.int .u64 q1) ∧ w'.cell? ⟨gx, 1, none⟩ = some (.int .i64 q2) ∧ w'.cell? ⟨gx, 2, none⟩ = some (.int .i64 q3)) (first | (exact HS.out _ hb3) | (exact HS.out _ hb2) | (exact HS.out _ hb1) | (exact HS.out _ (hb1.alloc hb1.size _)) | (exact HS.out _ (Below.refl _ _)) | (exact HS.out _ (Below.refl _ _).drew) | (exact HS.out _ ((Below.refl _ _).drew.alloc (Nat.le_refl _) _)) | fail)
                  (first
                    | (refine step_append_reads rfl _ _ 22 rfl wi.heap.size 25 i0 _ 3 24 Try.underlying22 hi0 hz0 hz1 hz2 rfl (by decide) (.slice none 0 0) 0 [] rfl (World.ownsRow_nil _ _ _ _) _ j _ rfl (HT.out _ (by first | exact (Below.refl _ _).drew | exact (Below.refl _ _).drew.alloc (Nat.le_refl _) _)) (entsC_one _) (by unfold maxLen; omega) (by omega) (Below.size (B := wi.heap.size) (w := wi) (by first | exact (Below.refl _ _).drew | exact (Below.refl _ _).drew.alloc (Nat.le_refl _) _)) ?_; intro v1 w1 hown1 hg1; have hs1 := (Below.refl _ _).grown hg1 (Nat.le_refl _) (by intro k hk; cases hk); have hb1 : Below wi.heap.size wi w1 := Below.grown (w := _) (by first | exact (Below.refl _ _).drew | exact (Below.refl _ _).drew.alloc (Nat.le_refl _) _) hg1 (Below.size (B := wi.heap.size) (w := wi) (by first | exact (Below.refl _ _).drew | exact (Below.refl _ _).drew.alloc (Nat.le_refl _) _)) (by intro k hk; cases hk))
                    | (refine step_append_reads rfl _ _ 22 rfl wi.heap.size 25 i0 _ 3 24 Try.underlying22 hi0 hz0 hz1 hz2 rfl (by decide) v1 _ _ rfl (by first | exact hown1 | exact own_next hown1 (below_lit _ _)) _ 1 (entsC [(q1, q2, q3)]) rfl (by first | exact (ents_lit _ _ oe).1 | exact (ents_lit _ _ oe).1.next hs1 | exact (Reads.drew' (ents_lit _ _ oe).1).next hs1) (entsC_one _) (by unfold maxLen; omega) (by omega) (Below.size (B := wi.heap.size) (w := wi) (by first | exact hb1 | exact hb1.alloc hb1.size _)) ?_; intro v2 w2 hown2 hg2; have hb2 : Below wi.heap.size wi w2 := Below.grown (by first | exact hb1 | exact hb1.alloc hb1.size _) hg2 (Below.size (B := wi.heap.size) (w := wi) (by first | exact hb1 | exact hb1.alloc hb1.size _)) (own_block_ge hown1))
                    | (refine step_append_reads rfl _ _ 22 rfl wi.heap.size 25 i0 _ 3 24 Try.underlying22 hi0 hz0 hz1 hz2 rfl (by decide) v2 _ _ rfl hown2 _ (m - j) _ rfl (HD.out _ hb2) (entsC_one _) (by unfold maxLen; omega) (by omega) hb2.size ?_; intro v3 w3 hown3 hg3; have hb3 : Below wi.heap.size wi w3 := hb2.grown hg3 hb2.size (own_block_ge hown2))
                    | fail)
                · go_wp2
                  go_roundw
                  case rel => exact ⟨k + 1, m + 1, by omega, by omega, by go_num, by rw [hst]; exact own_base (sort_rel hown3 hj HO.out hins).1 (Nat.le_trans (Nat.le_trans hbr.size hbx.size) hbi.size), by rw [hst]; exact (sort_rel hown3 hj HO.out hins).2, below_chain hbr (below_chain hbx (below_chain hbi hb3))⟩
                  case measure => simp [intOf]; omega
                · go_wp2
                  go_roundw
                  case rel => exact ⟨k + 1, m + 1, by omega, by omega, by go_num, by rw [hst]; exact own_base (sort_rel hown3 hj HO.out hins).1 (Nat.le_trans (Nat.le_trans hbr.size hbx.size) hbi.size), by rw [hst]; exact (sort_rel hown3 hj HO.out hins).2, below_chain hbr (below_chain hbx (below_chain hbi hb3))⟩
                  case measure => simp [intOf]; omega
            · go_wp2
              go_roundw
              case rel =>
                refine ⟨j + 1, by omega, by go_num, fun i hi hij => ?_, below_chain hbi hb1⟩
                rcases Nat.lt_or_ge i j with h7 | h7
                · exact Hpos.out i hi h7
                · obtain rfl : i = j := by omega
                  rw [E1.out.2]; exact hls
              case measure => simp [intOf]; omega
          · obtain rfl : j = m := by omega
            have hpe : posE (q1, q2, q3) O = j := posE_eq (by have := HO.out; omega) Hpos.out (fun hk => absurd hk (by have := HO.out; omega))
            have hins := insE_at hpe (by rw [List.getElem?_eq_none (by have := HO.out; omega)]; simp)
            have hdr : O.drop j = [] := List.drop_eq_nil_of_le (by have := HO.out; omega)
            have hdr2 : entsC (O.drop j) = [] := by rw [hdr]; rfl
            have Hdr := Lib.hid hdr2
            clear hdr hdr2
            by_cases s2 : cap = j
            · go_wp2_with fail
              refine wp_region_below (by kernel_rfl) (by kernel_rfl) ?_
              repeat (first | go_big_quiet_skip | (go_big_quiet_want; go_big_quiet_op; go_big_quiet_on) | (go_big_quiet_want; go_big_quiet_op; apply Exists.intro; refine ⟨fun x => ?_, ?_⟩; (fail); go_big_quiet_on))
              refine wpQuiet_nil ?_
              intro _ hx
              obtain ⟨⟨w1, hb1⟩, rfl⟩ := hx
              rename_i wj
              go_wp2_with fail
              go_quiet (fail)
              go_wp2_with fail
              clear cc0 cc1 cc2
              have hbi := below_drewN (below_chain hbi hb1) nq
              generalize wj.drewN nq = wi at hbi ⊢
              clear hb1
              have HT := Lib.hid (show ∀ w', Below wi.heap.size wi w' → Reads w' (.slice (some ⟨g, 0, none⟩) j j) 3 j (entsC (O.take j)) from fun w' hb => by have h := sort_HT HOe.out HO.out hj w' (below_chain hbi hb); rw [s2] at h; exact h)
              have HD := Lib.hid (show ∀ w', Below wi.heap.size wi w' → Reads w' (.slice (some ⟨g, 0, none⟩) 0 0) 3 (j - j) (entsC (O.drop j)) from fun w' hb => by rw [Nat.sub_self, Hdr.out]; exact reads_none _ _ _ (by unfold maxLen; omega))
              have hc3 := fun w' hb => Hce.out w' (below_chain hbi hb)
              have HS := Lib.hid (sort_held (x1 := q1) (x2 := q2) (x3 := q3) (p0 := ⟨gx, 0, none⟩) (p1 := ⟨gx, 1, none⟩) (p2 := ⟨gx, 2, none⟩) hc3)
              go_region_held3 (fun w' => Below wi.heap.size wi w' ∧ w'.cell? ⟨gx, 0, none⟩ = some (.int .u64 q1) ∧ w'.cell? ⟨gx, 1, none⟩ = some (.int .i64 q2) ∧ w'.cell? ⟨gx, 2, none⟩ = some (.int .i64 q3)) (first | (exact HS.out _ hb3) | (exact HS.out _ hb2) | (exact HS.out _ hb1) | (exact HS.out _ (hb1.alloc hb1.size _)) | (exact HS.out _ (Below.refl _ _)) | (exact HS.out _ (Below.refl _ _).drew) | (exact HS.out _ ((Below.refl _ _).drew.alloc (Nat.le_refl _) _)) | fail)
                (first
                  | (refine step_append_reads rfl _ _ 22 rfl wi.heap.size 25 i0 _ 3 24 Try.underlying22 hi0 hz0 hz1 hz2 rfl (by decide) (.slice none 0 0) 0 [] rfl (World.ownsRow_nil _ _ _ _) _ j _ rfl (HT.out _ (by first | exact (Below.refl _ _).drew | exact (Below.refl _ _).drew.alloc (Nat.le_refl _) _)) (entsC_one _) (by unfold maxLen; omega) (by omega) (Below.size (B := wi.heap.size) (w := wi) (by first | exact (Below.refl _ _).drew | exact (Below.refl _ _).drew.alloc (Nat.le_refl _) _)) ?_; intro v1 w1 hown1 hg1; have hs1 := (Below.refl _ _).grown hg1 (Nat.le_refl _) (by intro k hk; cases hk); have hb1 : Below wi.heap.size wi w1 := Below.grown (w := _) (by first | exact (Below.refl _ _).drew | exact (Below.refl _ _).drew.alloc (Nat.le_refl _) _) hg1 (Below.size (B := wi.heap.size) (w := wi) (by first | exact (Below.refl _ _).drew | exact (Below.refl _ _).drew.alloc (Nat.le_refl _) _)) (by intro k hk; cases hk))
                  | (refine step_append_reads rfl _ _ 22 rfl wi.heap.size 25 i0 _ 3 24 Try.underlying22 hi0 hz0 hz1 hz2 rfl (by decide) v1 _ _ rfl (by first | exact hown1 | exact own_next hown1 (below_lit _ _)) _ 1 (entsC [(q1, q2, q3)]) rfl (by first | exact (ents_lit _ _ oe).1 | exact (ents_lit _ _ oe).1.next hs1 | exact (Reads.drew' (ents_lit _ _ oe).1).next hs1) (entsC_one _) (by unfold maxLen; omega) (by omega) (Below.size (B := wi.heap.size) (w := wi) (by first | exact hb1 | exact hb1.alloc hb1.size _)) ?_; intro v2 w2 hown2 hg2; have hb2 : Below wi.heap.size wi w2 := Below.grown (by first | exact hb1 | exact hb1.alloc hb1.size _) hg2 (Below.size (B := wi.heap.size) (w := wi) (by first | exact hb1 | exact hb1.alloc hb1.size _)) (own_block_ge hown1))
                  | (refine step_append_reads rfl _ _ 22 rfl wi.heap.size 25 i0 _ 3 24 Try.underlying22 hi0 hz0 hz1 hz2 rfl (by decide) v2 _ _ rfl hown2 _ (j - j) _ rfl (HD.out _ hb2) (entsC_one _) (by unfold maxLen; omega) (by omega) hb2.size ?_; intro v3 w3 hown3 hg3; have hb3 : Below wi.heap.size wi w3 := hb2.grown hg3 hb2.size (own_block_ge hown2))
                  | fail)
              · go_wp2
                go_roundw
                case rel => exact ⟨k + 1, j + 1, by omega, by omega, by go_num, by rw [hst]; exact own_base (sort_rel hown3 hj HO.out hins).1 (Nat.le_trans (Nat.le_trans hbr.size hbx.size) hbi.size), by rw [hst]; exact (sort_rel hown3 hj HO.out hins).2, below_chain hbr (below_chain hbx (below_chain hbi hb3))⟩
                case measure => simp [intOf]; omega
              · go_wp2
                go_roundw
                case rel => exact ⟨k + 1, j + 1, by omega, by omega, by go_num, by rw [hst]; exact own_base (sort_rel hown3 hj HO.out hins).1 (Nat.le_trans (Nat.le_trans hbr.size hbx.size) hbi.size), by rw [hst]; exact (sort_rel hown3 hj HO.out hins).2, below_chain hbr (below_chain hbx (below_chain hbi hb3))⟩
                case measure => simp [intOf]; omega
            · have s1 : (j : Int) ≤ cap := by omega
              go_wp2_with fail
              refine wp_region_below (by kernel_rfl) (by kernel_rfl) ?_
              repeat (first | go_big_quiet_skip | (go_big_quiet_want; go_big_quiet_op; go_big_quiet_on) | (go_big_quiet_want; go_big_quiet_op; apply Exists.intro; refine ⟨fun x => ?_, ?_⟩; (fail); go_big_quiet_on))
              refine wpQuiet_nil ?_
              intro _ hx
              obtain ⟨⟨w1, hb1⟩, rfl⟩ := hx
              rename_i wj
              go_wp2_with fail
              go_quiet (fail)
              go_wp2_with fail
              clear cc0 cc1 cc2
              have hbi := below_drewN (below_chain hbi hb1) nq
              generalize wj.drewN nq = wi at hbi ⊢
              clear hb1
              have HT := Lib.hid (show ∀ w', Below wi.heap.size wi w' → Reads w' (.slice (some ⟨g, 0, none⟩) j cap) 3 j (entsC (O.take j)) from fun w' hb => sort_HT HOe.out HO.out hj w' (below_chain hbi hb))
              have HD := Lib.hid (show ∀ w', Below wi.heap.size wi w' → Reads w' (.slice (some ⟨g, j * 3, none⟩) 0 (cap - j)) 3 (j - j) (entsC (O.drop j)) from fun w' hb => by rw [Nat.sub_self, Hdr.out]; exact reads_none _ _ _ (by unfold maxLen; omega))
              have hc3 := fun w' hb => Hce.out w' (below_chain hbi hb)
              have HS := Lib.hid (sort_held (x1 := q1) (x2 := q2) (x3 := q3) (p0 := ⟨gx, 0, none⟩) (p1 := ⟨gx, 1, none⟩) (p2 := ⟨gx, 2, none⟩) hc3)
              go_region_held3 (fun w' => Below wi.heap.size wi w' ∧ w'.cell? ⟨gx, 0, none⟩ = some (.int .u64 q1) ∧ w'.cell? ⟨gx, 1, none⟩ = some (.int .i64 q2) ∧ w'.cell? ⟨gx, 2, none⟩ = some (.int .i64 q3)) (first | (exact HS.out _ hb3) | (exact HS.out _ hb2) | (exact HS.out _ hb1) | (exact HS.out _ (hb1.alloc hb1.size _)) | (exact HS.out _ (Below.refl _ _)) | (exact HS.out _ (Below.refl _ _).drew) | (exact HS.out _ ((Below.refl _ _).drew.alloc (Nat.le_refl _) _)) | fail)
                (first
                  | (refine step_append_reads rfl _ _ 22 rfl wi.heap.size 25 i0 _ 3 24 Try.underlying22 hi0 hz0 hz1 hz2 rfl (by decide) (.slice none 0 0) 0 [] rfl (World.ownsRow_nil _ _ _ _) _ j _ rfl (HT.out _ (by first | exact (Below.refl _ _).drew | exact (Below.refl _ _).drew.alloc (Nat.le_refl _) _)) (entsC_one _) (by unfold maxLen; omega) (by omega) (Below.size (B := wi.heap.size) (w := wi) (by first | exact (Below.refl _ _).drew | exact (Below.refl _ _).drew.alloc (Nat.le_refl _) _)) ?_; intro v1 w1 hown1 hg1; have hs1 := (Below.refl _ _).grown hg1 (Nat.le_refl _) (by intro k hk; cases hk); have hb1 : Below wi.heap.size wi w1 := Below.grown (w := _) (by first | exact (Below.refl _ _).drew | exact (Below.refl _ _).drew.alloc (Nat.le_refl _) _) hg1 (Below.size (B := wi.heap.size) (w := wi) (by first | exact (Below.refl _ _).drew | exact (Below.refl _ _).drew.alloc (Nat.le_refl _) _)) (by intro k hk; cases hk))
                  | (refine step_append_reads rfl _ _ 22 rfl wi.heap.size 25 i0 _ 3 24 Try.underlying22 hi0 hz0 hz1 hz2 rfl (by decide) v1 _ _ rfl (by first | exact hown1 | exact own_next hown1 (below_lit _ _)) _ 1 (entsC [(q1, q2, q3)]) rfl (by first | exact (ents_lit _ _ oe).1 | exact (ents_lit _ _ oe).1.next hs1 | exact (Reads.drew' (ents_lit _ _ oe).1).next hs1) (entsC_one _) (by unfold maxLen; omega) (by omega) (Below.size (B := wi.heap.size) (w := wi) (by first | exact hb1 | exact hb1.alloc hb1.size _)) ?_; intro v2 w2 hown2 hg2; have hb2 : Below wi.heap.size wi w2 := Below.grown (by first | exact hb1 | exact hb1.alloc hb1.size _) hg2 (Below.size (B := wi.heap.size) (w := wi) (by first | exact hb1 | exact hb1.alloc hb1.size _)) (own_block_ge hown1))
                  | (refine step_append_reads rfl _ _ 22 rfl wi.heap.size 25 i0 _ 3 24 Try.underlying22 hi0 hz0 hz1 hz2 rfl (by decide) v2 _ _ rfl hown2 _ (j - j) _ rfl (HD.out _ hb2) (entsC_one _) (by unfold maxLen; omega) (by omega) hb2.size ?_; intro v3 w3 hown3 hg3; have hb3 : Below wi.heap.size wi w3 := hb2.grown hg3 hb2.size (own_block_ge hown2))
                  | fail)
              · go_wp2
                go_roundw
                case rel => exact ⟨k + 1, j + 1, by omega, by omega, by go_num, by rw [hst]; exact own_base (sort_rel hown3 hj HO.out hins).1 (Nat.le_trans (Nat.le_trans hbr.size hbx.size) hbi.size), by rw [hst]; exact (sort_rel hown3 hj HO.out hins).2, below_chain hbr (below_chain hbx (below_chain hbi hb3))⟩
                case measure => simp [intOf]; omega
              · go_wp2
                go_roundw
                case rel => exact ⟨k + 1, j + 1, by omega, by omega, by go_num, by rw [hst]; exact own_base (sort_rel hown3 hj HO.out hins).1 (Nat.le_trans (Nat.le_trans hbr.size hbx.size) hbi.size), by rw [hst]; exact (sort_rel hown3 hj HO.out hins).2, below_chain hbr (below_chain hbx (below_chain hbi hb3))⟩
                case measure => simp [intOf]; omega
    · have hx := hown
      rw [List.take_of_length_le (by rw [List.length_map]; have := Hn.out; omega)] at hx hp
      rw [← hp] at hx
      go_wp2
      go_ret
      exact ⟨_, rfl, hx, hbr⟩
end Go.Proofs.Ytikodobglhjoiaa
