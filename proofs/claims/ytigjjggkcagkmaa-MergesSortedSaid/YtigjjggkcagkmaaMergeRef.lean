/-
  MERGES: the reference's Merge.
-/
import Derived.Test.YtigjjggkcagkmaaMergeHead
namespace Go.Proofs.Ytigjjggkcagkmaa
open Go.RowKit
set_option linter.unusedVariables false

theorem infoListM : (Try.prog.info? 36).map (fun i => (i.zero, i.size, i.bytes)) = some (some (.slice none 0 0), 1, 24) := by kernel_rfl
theorem own_far {w : World} {base n size : Nat} {e : TypeId} {v : Value} {xs : List Value} (h : w.ownsRow base e size v n xs) {p : Addr} (hp : ∀ k, v.ownBlock = some k → k ≠ p.block) (u : Value) : (w.setCell p u).ownsRow base e size v n xs := by
  refine ⟨h.1, ?_⟩
  rcases h.2 with hn | ⟨g', cap, cur, rfl, hbs, hgg, rest⟩
  · exact .inl hn
  · exact .inr ⟨g', cap, cur, rfl, hbs, (Below.heap_setCell w p u g' (hp g' (by simp [Value.ownBlock]))).trans hgg, rest⟩
theorem own_lt {w : World} {base n size : Nat} {e : TypeId} {v : Value} {xs : List Value} (h : w.ownsRow base e size v n xs) : ∀ k, v.ownBlock = some k → k < w.heap.size := by
  intro k hk
  rcases h.2 with ⟨rfl, _⟩ | ⟨g, cap, cur, rfl, hbs, hgg, _⟩
  · simp [Value.ownBlock] at hk
  · simp [Value.ownBlock] at hk
    subst hk
    exact (Array.getElem?_eq_some_iff.1 hgg).1
theorem row3f {w : World} {g : Nat} {t : TypeId} {a b c : Value} (h : Row w g t [a, b, c]) : (w.cell? ⟨g, 0, none⟩ = some a ∧ w.cell? ⟨g, 1, none⟩ = some b ∧ w.cell? ⟨g, 2, none⟩ = some c) ∧ w.frozen? ⟨g, 0, none⟩ = false ∧ w.frozen? ⟨g, 1, none⟩ = false ∧ w.frozen? ⟨g, 2, none⟩ = false :=
  ⟨row3 h, h.frozen 0 (by simp), h.frozen 1 (by simp), h.frozen 2 (by simp)⟩
def zeroE : Ent := (0, 0, 0)
/-- The three stores of an entry. -/
def set3 (w : World) (g : Nat) (e : Ent) : World := ((w.setCell ⟨g, 0, none⟩ (.int .u64 (e.1 : Nat))).setCell ⟨g, 1, none⟩ (.int .i64 e.2.1)).setCell ⟨g, 2, none⟩ (.int .i64 e.2.2)
theorem set3_row {w : World} {g : Nat} {t : TypeId} {x e : Ent} (h : Row w g t (entL x)) : Row (set3 w g e) g t (entL e) := ((h.set 0 _).set 1 _).set 2 _
theorem set3_heads {w wr : World} {g n E : Nat} {lf : List (List Ent)} (h : Heads w wr g n lf) (hne : g ≠ E) (e : Ent) : Heads w (set3 wr E e) g n lf := ((h.far (p := ⟨E, 0, none⟩) hne _).far (p := ⟨E, 1, none⟩) hne _).far (p := ⟨E, 2, none⟩) hne _
theorem set3_own {w : World} {base n size E : Nat} {t : TypeId} {v : Value} {xs : List Value} (h : w.ownsRow base t size v n xs) (hp : ∀ k, v.ownBlock = some k → k < E) (e : Ent) : (set3 w E e).ownsRow base t size v n xs :=
  own_far (own_far (own_far h (p := ⟨E, 0, none⟩) (fun k hk => Nat.ne_of_lt (hp k hk)) _) (p := ⟨E, 1, none⟩) (fun k hk => Nat.ne_of_lt (hp k hk)) _) (p := ⟨E, 2, none⟩) (fun k hk => Nat.ne_of_lt (hp k hk)) _
theorem set3_below {w wr : World} {B E : Nat} (h : Below B w wr) (hE : B ≤ E) (e : Ent) : Below B w (set3 wr E e) := ((h.setCell (p := ⟨E, 0, none⟩) hE _).setCell (p := ⟨E, 1, none⟩) hE _).setCell (p := ⟨E, 2, none⟩) hE _
theorem set3_size (w : World) (g : Nat) (e : Ent) : (set3 w g e).heap.size = w.heap.size := by simp [set3]

set_option maxRecDepth 4000 in
set_option maxHeartbeats 8000000 in
theorem ref_Merge (v : Value) (ls : List (List Ent)) (w : World) (h : Lists w v ls) (hn : ls.length ≤ 1000) (ht : totalM ls ≤ 1000000) :
    Calls Try.prog 28 #[v] w fun e w' => ∃ A c, e = .returned (.slice A (mergeL ls).length c) ∧ w'.ownsRow w.heap.size 40 3 (.slice A (mergeL ls).length c) (mergeL ls).length (entsC (mergeL ls)) ∧ (∀ e ∈ mergeL ls, okE e) ∧ Below w.heap.size w w' := by
  obtain ⟨vs, hvl, hr, hx⟩ := h
  obtain ⟨A, c, rfl, hc1, hc2, -, hcell⟩ := id hr
  obtain ⟨n, hnl⟩ : ∃ n, n = ls.length := ⟨_, rfl⟩
  have hvn : vs.length = n := by omega
  rw [hvn] at hr hc1 ⊢
  rw [← hnl] at hn
  have hone : ∀ u ∈ vs, u.oneCell' = true := by
    intro u hu
    obtain ⟨k, hk, rfl⟩ := List.getElem_of_mem hu
    obtain ⟨⟨A', c', hv', -⟩, -⟩ := hx k _ (ls[k]'(by omega)) (List.getElem?_eq_getElem hk) (List.getElem?_eq_getElem (by omega))
    rw [hv']; rfl
  have hmn : n ≤ maxLen := by unfold maxLen; omega
  obtain ⟨j0, gj0, gz0, gz1, gz2⟩ := info_parts infoListM
  obtain ⟨i0, hi0, hz0, hz1, hz2⟩ := info_parts infoEntM
  have Hx := Lib.hid hx
  have Hnl := Lib.hid hnl
  have Hvl := Lib.hid hvl
  have Hvn := Lib.hid hvn
  clear hx hcell hvl hnl hvn
  go_enter Try.func28, Try.ntmps28
  go_wp2_with (first
    | (at_builtin; refine wpList_append_reads _ rfl _ _ 34 rfl w.heap.size 36 j0 _ 1 24 Try.underlying34 gj0 gz0 gz1 gz2 rfl (by decide) (.slice none 0 0) 0 _ rfl (World.ownsRow_nil _ _ _ _) _ n vs rfl hr hone (by unfold maxLen; omega) (by omega) (Nat.le_refl _) ?_; intro v1 w1 hown1 hg1))
  rw [Nat.zero_add, List.nil_append] at hown1
  have hb1 : Below w.heap.size w w1 := (Below.refl _ _).grown hg1 (Nat.le_refl _) (fun k hk => by simp [Value.ownBlock] at hk)
  rcases id hown1.2 with ⟨rfl, h0⟩ | ⟨g, cap, cur, rfl, hbs, hgg, hnc, hcm, hcs, htk⟩
  · subst h0
    have hls : ls = [] := List.length_eq_zero_iff.1 Hnl.out.symm
    subst hls
    have Hb1 := Lib.hid hb1
    clear hb1 hown1 hg1 hr hone gj0 gz0 gz1 gz2 hi0 hz0 hz1 hz2
    go_wp2_with fail
    go_loopw [3] (fun out wr => out = .slice none 0 0 ∧ Below w.heap.size w wr) (fun _ _ => 0)
    case atStart => exact ⟨rfl, Hb1.out⟩
    case round =>
      obtain ⟨rfl, hbr⟩ := hrel
      have hbr2 := hbr.alloc hbr.size (.cells #[.int .u64 0, .int .i64 0, .int .i64 0] 40)
      go_wp2_with fail
      generalize wr.alloc (.cells #[.int .u64 0, .int .i64 0, .int .i64 0] 40) = W3 at hbr2 ⊢
      go_loopw [6, 7] (fun fd i wi => fd = .bool false ∧ i = .int .i64 0 ∧ Below w.heap.size w wi) (fun _ _ _ => 0)
      case atStart => exact ⟨rfl, rfl, hbr2⟩
      case round =>
        obtain ⟨rfl, rfl, hbi⟩ := hrel
        go_wp2
        go_ret
        exact ⟨none, 0, rfl, World.ownsRow_nil _ _ _ _, (by intro e h; exact absurd (show e ∈ ([] : List Ent) from h) (by simp)), hbi⟩
  · have hrow1 := Row.of_own hown1
    have hgB : w.heap.size ≤ g := hbs
    have hgw := hrow1.lt
    have hH1 : Heads w w1 g n ls := ⟨Hnl.out.symm, vs, Hvn.out, hrow1, Hx.out⟩
    have hown0 : w1.ownsRow w1.heap.size 40 3 (.slice none 0 0) 0 (entsC []) := World.ownsRow_nil _ _ _ _
    have H1 := Lib.hid (And.intro hH1 (And.intro hown0 hb1))
    have HW := hb1.size
    clear hrow1 hH1 hown0 hb1 hown1 hg1 hgg hcs htk hr hone gj0 gz0 gz1 gz2 hbs hcm
    go_wp2_with fail
    go_loopw [3] (fun out wr => ∃ (lf : List (List Ent)) (o : List Ent) (A' : Option Addr) (c' : Nat), out = .slice A' o.length c' ∧ wr.ownsRow w1.heap.size 40 3 (.slice A' o.length c') o.length (entsC o) ∧ Heads w wr g n lf ∧ Below w.heap.size w wr ∧ w1.heap.size ≤ wr.heap.size ∧ mergeTo lf o = mergeL ls ∧ (∀ e ∈ o, okE e) ∧ o.length + totalM lf ≤ 1000000) (fun _ wr => lensOf wr g n)
    case atStart => exact ⟨ls, [], none, 0, rfl, H1.out.2.1, H1.out.1, H1.out.2.2, Nat.le_refl _, rfl, by simp, by simpa using ht⟩
    case round =>
      obtain ⟨lf, o, A0, c0, rfl, hown, hhd, hbr, hsz, hto, hoo, htot⟩ := hrel
      have hlfn := hhd.1
      have holt := own_lt hown
      have hm0 := hhd.lens
      have al := (Below.refl wr.heap.size wr).alloc (Nat.le_refl _) (.cells #[.int .u64 0, .int .i64 0, .int .i64 0] 40)
      have hE0 : Row (wr.alloc (.cells #[.int .u64 0, .int .i64 0, .int .i64 0] 40)) wr.heap.size 40 (entL zeroE) := Row.new wr #[.int .u64 0, .int .i64 0, .int .i64 0] 40
      have hH0 := hhd.next al
      have hO0 := own_next hown al
      have hB0 := below_chain hbr al
      have hgE : g < wr.heap.size := Nat.lt_of_lt_of_le hgw hsz
      have hwE : w.heap.size ≤ wr.heap.size := hbr.size
      have hsz2 : w1.heap.size ≤ wr.heap.size := hsz
      have Hm0 := Lib.hid hm0
      have Hto := Lib.hid hto
      have Hoo := Lib.hid hoo
      have Hlfn := Lib.hid hlfn
      have Hown := Lib.hid hown
      obtain ⟨wo, hwo⟩ : ∃ x, x = wr := ⟨_, rfl⟩
      clear hown hhd hm0 hto hoo hlfn hbr al hsz
      go_wp2_with fail
      have HWO := Lib.hid hwo
      clear hwo
      generalize wr.alloc (.cells #[.int .u64 0, .int .i64 0, .int .i64 0] 40) = W3 at hE0 hH0 hO0 hB0 ⊢
      obtain ⟨E, hE⟩ : ∃ E, E = wr.heap.size := ⟨_, rfl⟩
      rw [← hE] at hE0 hgE hwE holt hsz2 ⊢
      have HE := Lib.hid hE
      have Holt := Lib.hid holt
      have S0 := Lib.hid (And.intro hE0 (And.intro hH0 (And.intro hO0 hB0)))
      have hE3 := hE0.lt
      clear hE holt hE0 hH0 hO0 hB0
      go_loopw [6, 7] (fun fd i wi => ∃ k : Nat, k ≤ n ∧ i = .int .i64 (k : Int) ∧ fd = .bool (oL lf k).isSome ∧ Row wi E 40 (entL ((oL lf k).getD zeroE)) ∧ Heads w wi g n lf ∧ wi.ownsRow w1.heap.size 40 3 (.slice A0 o.length c0) o.length (entsC o) ∧ Below w.heap.size w wi ∧ W3.heap.size ≤ wi.heap.size) (fun _ i _ => n - (intOf i).toNat)
      case atStart => exact ⟨0, Nat.zero_le _, rfl, rfl, S0.out.1, S0.out.2.1, S0.out.2.2.1, S0.out.2.2.2, Nat.le_refl _⟩
      case round =>
        obtain ⟨k, hk, rfl, rfl, hre, hhd, hown, hbi, hsi⟩ := hrel
        by_cases hlt : k < n
        · have i1 : (k : Int) < n := by omega
          obtain ⟨l, hl⟩ : ∃ l, lf[k]? = some l := ⟨_, List.getElem?_eq_getElem (by have := Hlfn.out; omega)⟩
          obtain ⟨A', c', hE', hh1, hh2, hok, hcells⟩ := hhd.at hl
          have f1 := fun x : Later wr => (hcells x.it x.ok).1
          have hsucc := oL_succ hl
          unfold maxLen at hh2
          have Hs := Lib.hid (And.intro hsucc (And.intro hhd (And.intro hown (And.intro hbi hsi))))
          have Hre := Lib.hid hre
          have Hok := Lib.hid hok
          have HE' := Lib.hid hE'
          clear hsucc hhd hown hbi hsi hre hcells hok hE'
          rcases l with _ | ⟨e, l⟩
          · simp only [List.length_nil] at f1 hh1
            obtain ⟨oo, hoo2⟩ : ∃ oo, oo = oL lf k := ⟨_, rfl⟩
            have Hoo2 := Lib.hid hoo2
            rw [← hoo2]
            clear hoo2
            go_wp2_with fail
            refine wp_region_below (by kernel_rfl) (by kernel_rfl) ?_
            repeat (first | go_big_quiet_skip | (go_big_quiet_want; go_big_quiet_op; go_big_quiet_on) | (go_big_quiet_want; go_big_quiet_op; apply Exists.intro; refine ⟨fun x => ?_, ?_⟩; (fail); go_big_quiet_on))
            refine wpQuiet_nil ?_
            intro _ hx
            obtain ⟨⟨w2, hb2⟩, rfl⟩ := hx
            rename_i w2
            go_wp2
            obtain ⟨t1, t2, t3, t4, t5⟩ := Hs.out
            have t6 : oL lf (k + 1) = oL lf k := t1
            go_roundw
            case rel => exact ⟨k + 1, by omega, by go_num, by rw [t6, ← Hoo2.out], by rw [t6]; exact Hre.out.next hb2, t2.next hb2, own_next t3 hb2, below_chain t4 hb2, Nat.le_trans t5 hb2.size⟩
            case measure => simp [intOf]; omega
          · simp only [List.length_cons] at f1 hh1
            have i2 : (0 : Int) < (l.length : Int) + 1 := by omega
            have i3 : 0 < l.length + 1 := by omega
            have oe := Hok.out e (by simp)
            obtain ⟨b, off, rfl, hblt, hcc⟩ := HE'.out.later (by simp)
            have ca := fun x : Later wr => hcc 0 e rfl x.it (below_chain Hs.out.2.2.2.1 x.ok)
            simp only [Nat.zero_mul, Nat.add_zero] at ca
            have ca0 := fun x => (ca x).1
            have ca1 := fun x => (ca x).2.1
            have ca2 := fun x => (ca x).2.2
            clear ca hcc
            rcases hoe : oL lf k with _ | eb
            · have Hoe := Lib.hid hoe
              rw [hoe] at Hre
              clear hoe
              simp only [Option.isSome_none]
              go_wp2_with fail
              refine wp_region_below (by kernel_rfl) (by kernel_rfl) ?_
              repeat (first | go_big_quiet_skip | (go_big_quiet_want; go_big_quiet_op; go_big_quiet_on) | (go_big_quiet_want; go_big_quiet_op; apply Exists.intro; refine ⟨fun x => ?_, ?_⟩; (fail); go_big_quiet_on))
              refine wpQuiet_nil ?_
              intro _ hx
              obtain ⟨⟨w2, hb2⟩, rfl⟩ := hx
              rename_i w2
              obtain ⟨t1, t2, t3, t4, t5⟩ := Hs.out
              have t6 : oL lf (k + 1) = some e := by rw [t1, Hoe.out]; rfl
              have hre2 := Hre.out.next hb2
              obtain ⟨⟨z0, z1, z2⟩, y0, y1, y2⟩ := row3f hre2
              have u1 : w2.cell? ⟨g, k, none⟩ = _ := f1 ⟨w2, hb2⟩
              have u2 : w2.cell? ⟨b, off, none⟩ = _ := ca0 ⟨w2, hb2⟩
              have u3 : w2.cell? ⟨b, off + 1, none⟩ = _ := ca1 ⟨w2, hb2⟩
              have u4 : w2.cell? ⟨b, off + 2, none⟩ = _ := ca2 ⟨w2, hb2⟩
              have P1 := Lib.hid (set3_row (e := e) hre2)
              have P2 := Lib.hid (set3_heads (t2.next hb2) (Nat.ne_of_lt hgE) e)
              have P3 := Lib.hid (set3_own (own_next t3 hb2) Holt.out e)
              have P4 := Lib.hid (set3_below (below_chain t4 hb2) hwE e)
              have P5 := Nat.le_trans t5 hb2.size
              have P6 := Lib.hid t6
              clear hre2 f1 ca0 ca1 ca2 t1 t2 t3 t4 t5 t6
              go_wp2
              go_roundw
              case rel => exact ⟨k + 1, by omega, by go_num, by rw [P6.out]; rfl, by rw [P6.out]; exact P1.out, P2.out, P3.out, P4.out, by simpa using P5⟩
              case measure => simp [intOf]; omega
            · have oeb : okE eb := by
                obtain ⟨lx, hlx, hex⟩ := oL_mem hoe
                exact Hs.out.2.1.ok lx hlx eb hex
              have fe := fun x : Later wr => row3 (show Row x.it E 40 [.int .u64 (eb.1 : Nat), .int .i64 eb.2.1, .int .i64 eb.2.2] from by have := Hre.out.next x.ok; rw [hoe] at this; exact this)
              have fe0 := fun x => (fe x).1
              have fe1 := fun x => (fe x).2.1
              have fe2 := fun x => (fe x).2.2
              have Hoe := Lib.hid hoe
              rw [hoe] at Hre
              clear hoe fe
              simp only [Option.isSome_some]
              go_wp2_with fail
              refine wp_region_below (by kernel_rfl) (by kernel_rfl) ?_
              repeat (first | go_big_quiet_skip | (go_big_quiet_want; go_big_quiet_op; go_big_quiet_on) | (go_big_quiet_want; go_big_quiet_op; apply Exists.intro; refine ⟨fun x => ?_, ?_⟩; (first | (go_at_call 43; exact calls_below x (ref_Less e eb _ oe oeb))); go_big_quiet_on))
              refine wpQuiet_nil ?_
              intro _ hx
              obtain ⟨⟨w2, hb2⟩, rfl⟩ := hx
              rename_i w2
              obtain ⟨t1, t2, t3, t4, t5⟩ := Hs.out
              have hre2 : Row w2 E 40 (entL eb) := Hre.out.next hb2
              rcases hle : lessE e eb with _ | _
              · have t6 : oL lf (k + 1) = some eb := by rw [t1, Hoe.out]; simp [headM, hle]
                have P1 := Lib.hid hre2
                have P6 := Lib.hid t6
                have T := Lib.hid (And.intro t2 (And.intro t3 (And.intro t4 t5)))
                clear hre2 f1 ca0 ca1 ca2 fe0 fe1 fe2 t1 t2 t3 t4 t5 t6
                go_wp2
                go_roundw
                case rel => exact ⟨k + 1, by omega, by go_num, by rw [P6.out]; rfl, by rw [P6.out]; exact P1.out, T.out.1.next hb2, own_next T.out.2.1 hb2, below_chain T.out.2.2.1 hb2, Nat.le_trans T.out.2.2.2 hb2.size⟩
                case measure => simp [intOf]; omega
              · have t6 : oL lf (k + 1) = some e := by rw [t1, Hoe.out]; simp [headM, hle]
                obtain ⟨⟨z0, z1, z2⟩, y0, y1, y2⟩ := row3f hre2
                have u1 : w2.cell? ⟨g, k, none⟩ = _ := f1 ⟨w2, hb2⟩
                have u2 : w2.cell? ⟨b, off, none⟩ = _ := ca0 ⟨w2, hb2⟩
                have u3 : w2.cell? ⟨b, off + 1, none⟩ = _ := ca1 ⟨w2, hb2⟩
                have u4 : w2.cell? ⟨b, off + 2, none⟩ = _ := ca2 ⟨w2, hb2⟩
                have P1 := Lib.hid (set3_row (e := e) hre2)
                have P2 := Lib.hid (set3_heads (t2.next hb2) (Nat.ne_of_lt hgE) e)
                have P3 := Lib.hid (set3_own (own_next t3 hb2) Holt.out e)
                have P4 := Lib.hid (set3_below (below_chain t4 hb2) hwE e)
                have P5 := Nat.le_trans t5 hb2.size
                have P6 := Lib.hid t6
                clear hre2 f1 ca0 ca1 ca2 fe0 fe1 fe2 t1 t2 t3 t4 t5 t6
                go_wp2
                go_roundw
                case rel => exact ⟨k + 1, by omega, by go_num, by rw [P6.out]; rfl, by rw [P6.out]; exact P1.out, P2.out, P3.out, P4.out, by simpa using P5⟩
                case measure => simp [intOf]; omega
        · obtain rfl : k = n := by omega
          have i1 : ¬ (k : Int) < k := by omega
          have hall := oL_all lf
          rw [Hlfn.out] at hall
          rcases hoe : oL lf k with _ | eb
          · rw [hoe] at hall
            have hm := mergeTo_none (out := o) hall.symm
            have hfin : o = mergeL ls := hm.symm.trans Hto.out
            subst hfin
            have Hown2 := Lib.hid (own_base1 hown HW)
            simp only [Option.isSome_none]
            clear hown hall hm hoe hhd hre
            go_wp2
            go_ret
            exact ⟨A0, c0, rfl, Hown2.out, fun a b c h => Hoo.out _ h, hbi⟩
          · rw [hoe] at hall hre
            have oeb : okE eb := by
              obtain ⟨lx, hlx, hex⟩ := oL_mem hoe
              exact hhd.ok lx hlx eb hex
            have hstep := mergeTo_step (out := o) hall.symm
            have Hstep := Lib.hid hstep
            have S1 := Lib.hid (And.intro hre (And.intro hhd (And.intro hown (And.intro hbi hsi))))
            obtain ⟨W4, hW4⟩ : ∃ x, x = wr := ⟨_, rfl⟩
            have hE4 : E < wr.heap.size := hre.lt
            simp only [Option.isSome_some]
            clear hstep hall hoe hre hhd hown hbi hsi S0
            go_wp2_with fail
            rw [← hW4] at S1 hE4 ⊢
            clear hW4
            go_loopw [8] (fun i wj => ∃ m : Nat, m ≤ k ∧ i = .int .i64 (m : Int) ∧ Row wj E 40 (entL eb) ∧ Heads w wj g k (midL eb lf m) ∧ wj.ownsRow w1.heap.size 40 3 (.slice A0 o.length c0) o.length (entsC o) ∧ Below w.heap.size w wj ∧ W3.heap.size ≤ wj.heap.size) (fun i _ => k - (intOf i).toNat)
            case atStart => exact ⟨0, Nat.zero_le _, rfl, S1.out.1, by rw [midL_zero]; exact S1.out.2.1, S1.out.2.2.1, S1.out.2.2.2.1, S1.out.2.2.2.2⟩
            case round =>
              obtain ⟨m, hm, rfl, hrj, hhj, hoj, hbj, hsj⟩ := hrel
              have Sj := Lib.hid (And.intro hrj (And.intro hhj (And.intro hoj (And.intro hbj hsj))))
              clear hrj hhj hoj hbj hsj
              by_cases hlt2 : m < k
              · have j1 : (m : Int) < k := by omega
                obtain ⟨l, hl⟩ : ∃ l, lf[m]? = some l := ⟨_, List.getElem?_eq_getElem (by have := Hlfn.out; omega)⟩
                have Hl := Lib.hid hl
                clear hl
                go_wp2_with fail
                go_loopw [75] (fun _ wl => ∃ l' : List Ent, offM eb l' = offM eb l ∧ Row wl E 40 (entL eb) ∧ Heads w wl g k ((midL eb lf m).set m l') ∧ wl.ownsRow w1.heap.size 40 3 (.slice A0 o.length c0) o.length (entsC o) ∧ Below w.heap.size w wl ∧ W3.heap.size ≤ wl.heap.size) (fun _ wl => lenAt wl g m)
                case atStart => exact ⟨l, rfl, Sj.out.1, by rw [set_same (midL_get Hl.out)]; exact Sj.out.2.1, Sj.out.2.2.1, Sj.out.2.2.2.1, Sj.out.2.2.2.2⟩
                case round =>
                  obtain ⟨l', hoff, hrl, hhl, hol, hbl, hsl⟩ := hrel
                  have hget : ((midL eb lf m).set m l')[m]? = some l' := List.getElem?_set_self (by rw [midL_len _ _ _ (by have := Hlfn.out; omega)]; have := Hlfn.out; omega)
                  obtain ⟨A', c', hE', hh1, hh2, hok, hcells⟩ := hhl.at hget
                  have hla := hhl.lenAt hget
                  have f1 := fun x : Later wr => (hcells x.it x.ok).1
                  have fe := fun x : Later wr => row3 (show Row x.it E 40 [.int .u64 (eb.1 : Nat), .int .i64 eb.2.1, .int .i64 eb.2.2] from hrl.next x.ok)
                  have fe0 := fun x => (fe x).1
                  have fe1 := fun x => (fe x).2.1
                  have fe2 := fun x => (fe x).2.2
                  unfold maxLen at hh2
                  have Sl := Lib.hid (And.intro hrl (And.intro hhl (And.intro hol (And.intro hbl hsl))))
                  have Hoff := Lib.hid hoff
                  have HE' := Lib.hid hE'
                  have Hla := Lib.hid hla
                  have Hcells := Lib.hid hcells
                  have Hok := Lib.hid hok
                  clear hrl hhl hol hbl hsl hoff hE' hla hcells hok hget fe
                  rcases l' with _ | ⟨x, l'⟩
                  · simp only [List.length_nil] at f1 hh1
                    go_wp2_with fail
                    refine wp_region_below (by kernel_rfl) (by kernel_rfl) ?_
                    repeat (first | go_big_quiet_skip | (go_big_quiet_want; go_big_quiet_op; go_big_quiet_on) | (go_big_quiet_want; go_big_quiet_op; apply Exists.intro; refine ⟨fun x => ?_, ?_⟩; (fail); go_big_quiet_on))
                    refine wpQuiet_nil ?_
                    intro _ hx
                    obtain ⟨⟨w4, hb4⟩, rfl⟩ := hx
                    rename_i w4
                    have P := Lib.hid (Heads.next Sl.out.2.1 hb4)
                    clear f1 fe0 fe1 fe2
                    go_wp2
                    go_roundw
                    case rel => exact ⟨m + 1, by omega, by go_num, Sl.out.1.next hb4, by have h7 := P.out; have h8 : offM eb l = [] := Hoff.out.symm; rw [← midL_set Hl.out, h8]; exact h7, own_next Sl.out.2.2.1 hb4, below_chain Sl.out.2.2.2.1 hb4, Nat.le_trans Sl.out.2.2.2.2 hb4.size⟩
                    case measure => simp [intOf]; omega
                  · simp only [List.length_cons] at f1 hh1
                    have i2 : (0 : Int) < (l'.length : Int) + 1 := by omega
                    have i3 : 0 < l'.length + 1 := by omega
                    obtain ⟨b, off, rfl, hblt, hcc⟩ := HE'.out.later (by simp)
                    have ca := fun y : Later wr => hcc 0 x rfl y.it (below_chain Sl.out.2.2.2.1 y.ok)
                    simp only [Nat.zero_mul, Nat.add_zero] at ca
                    have ca0 := fun y => (ca y).1
                    have ca1 := fun y => (ca y).2.1
                    have ca2 := fun y => (ca y).2.2
                    clear ca hcc
                    by_cases hxe : x = eb
                    · subst hxe
                      go_wp2_with fail
                      refine wp_region_below (by kernel_rfl) (by kernel_rfl) ?_
                      repeat (first | go_big_quiet_skip | (go_big_quiet_want; go_big_quiet_op; go_big_quiet_on) | (go_big_quiet_want; go_big_quiet_op; apply Exists.intro; refine ⟨fun x => ?_, ?_⟩; (fail); go_big_quiet_on))
                      refine wpQuiet_nil ?_
                      intro _ hx
                      obtain ⟨⟨w4, hb4⟩, rfl⟩ := hx
                      rename_i w4
                      obtain ⟨u1, u2⟩ := Hcells.out w4 hb4
                      simp only [List.length_cons] at u1
                      clear f1 fe0 fe1 fe2 ca0 ca1 ca2
                      have hE5 : Ents w (.slice (some ⟨b, off, none⟩) (l'.length + 1) c') (x :: l') := HE'.out
                      have hhd4 := Heads.next Sl.out.2.1 hb4
                      have hg2 : ((midL x lf m).set m l')[m]? = some l' := List.getElem?_set_self (by rw [midL_len _ _ _ (by have := Hlfn.out; omega)]; have := Hlfn.out; omega)
                      have P1 := Lib.hid ((offM_cons x l').symm.trans Hoff.out)
                      have P2 := Lib.hid (fun u => Row.far (Sl.out.1.next hb4) (p := ⟨g, m, none⟩) (Nat.ne_of_gt hgE) u)
                      have P3 := Lib.hid (fun u => ownsRow_setCell_below (own_next Sl.out.2.2.1 hb4) (a := ⟨g, m, none⟩) hgw u)
                      have P4 := Lib.hid (fun u => (below_chain Sl.out.2.2.2.1 hb4).setCell (p := ⟨g, m, none⟩) hgB u)
                      have P5 := Nat.le_trans Sl.out.2.2.2.2 hb4.size
                      have P6 := Lib.hid (fun (u : Value) (hu : Ents w u l') => show Heads w (w4.setCell ⟨g, m, none⟩ u) g k ((midL x lf m).set m l') from by have := hhd4.set m hu; rw [List.set_set] at this; exact this)
                      have HG2 := Lib.hid hg2
                      have HE5 := Lib.hid hE5
                      clear hhd4 hg2 hE5
                      by_cases hc1 : c' = 1
                      · subst hc1
                        obtain rfl : l' = [] := List.length_eq_zero_iff.1 (by omega)
                        simp only [List.length_nil] at u1 i2 i3 hh1
                        go_wp2
                        have hh := Lib.hid (P6.out _ (HE5.out.tail (by simp) (some ⟨b, off, none⟩) (by simp)))
                        go_roundw
                        case rel => exact ⟨[], P1.out, P2.out _, hh.out, P3.out _, P4.out _, by simpa using P5⟩
                        case measure => (have h6 := hh.out.lenAt HG2.out); (have h7 := Hla.out); rw [h7]; simp only [List.length_nil, List.length_cons, Nat.sub_self] at h6 ⊢; omega
                      · have i4 : 1 < c' := by omega
                        have i5 : (1 : Int) < c' := by omega
                        go_wp2
                        have hh := Lib.hid (P6.out _ (HE5.out.tail (fun _ => i4) (some ⟨b, off + 3, none⟩) (fun _ => rfl)))
                        go_roundw
                        case rel => exact ⟨l', P1.out, P2.out _, hh.out, P3.out _, P4.out _, by simpa using P5⟩
                        case measure => (have h6 := hh.out.lenAt HG2.out); (have h7 := Hla.out); rw [h7]; simp only [List.length_cons] at h6 ⊢; omega
                    · have hxn := ent_ne hxe
                      go_wp2_with fail
                      refine wp_region_below (by kernel_rfl) (by kernel_rfl) ?_
                      repeat (first | go_big_quiet_skip | (go_big_quiet_want; go_big_quiet_op; go_big_quiet_on) | (go_big_quiet_want; go_big_quiet_op; apply Exists.intro; refine ⟨fun x => ?_, ?_⟩; (fail); go_big_quiet_on))
                      refine wpQuiet_nil ?_
                      intro _ hx
                      obtain ⟨⟨w4, hb4⟩, rfl⟩ := hx
                      rename_i w4
                      have P := Lib.hid (Heads.next Sl.out.2.1 hb4)
                      have HX := Lib.hid hxe
                      clear f1 fe0 fe1 fe2 ca0 ca1 ca2 hxn hxe
                      go_wp2
                      go_roundw
                      case rel => exact ⟨m + 1, by omega, by go_num, Sl.out.1.next hb4, by have h7 := P.out; have h8 := Hoff.out; rw [offM_other HX.out] at h8; rw [← midL_set Hl.out, ← h8]; exact h7, own_next Sl.out.2.2.1 hb4, below_chain Sl.out.2.2.2.1 hb4, Nat.le_trans Sl.out.2.2.2.2 hb4.size⟩
                      case measure => simp [intOf]; omega
              · obtain rfl : m = k := by omega
                have j1 : ¬ (m : Int) < m := by omega
                have e0 := midL_all eb lf
                rw [Hlfn.out] at e0
                obtain ⟨hrj, hhj, hoj, hbj, hsj⟩ := Sj.out
                rw [e0] at hhj
                obtain ⟨s1, s2⟩ := Hstep.out
                have HT := Lib.hid (s1.symm.trans Hto.out)
                have HS2 := Lib.hid s2
                have hoE : Ents wr (.slice A0 o.length c0) o := ⟨Reads.of_own hoj, Hoo.out⟩
                have Hokn : ∀ e ∈ o ++ [eb], okE e := fun e he => by
                  rcases List.mem_append.1 he with h | h
                  · exact Hoo.out e h
                  · rw [List.mem_singleton.1 h]; exact oeb
                have HOkn := Lib.hid Hokn
                have fe := fun x : Later wr => row3 (show Row x.it E 40 [.int .u64 (eb.1 : Nat), .int .i64 eb.2.1, .int .i64 eb.2.2] from hrj.next x.ok)
                have fe0 := fun x => (fe x).1
                have fe1 := fun x => (fe x).2.1
                have fe2 := fun x => (fe x).2.2
                have Hrj := Lib.hid hrj
                have Hhj := Lib.hid hhj
                have Hoj := Lib.hid hoj
                have Hbj := Lib.hid hbj
                have Hsj := Lib.hid hsj
                have hwj : w1.heap.size ≤ wr.heap.size := by omega
                clear hrj hhj hoj hbj hsj s1 s2 Hokn e0 fe Sj S1
                rcases hgl : o.getLast? with _ | last
                · obtain rfl : o = [] := List.getLast?_eq_none_iff.1 hgl
                  have Hou := Lib.hid (show outM [] eb = [] ++ [eb] from rfl)
                  have Hoj0 := Lib.hid (show wr.ownsRow w1.heap.size 40 3 (.slice A0 0 c0) 0 (entsC []) from Hoj.out)
                  clear hoE
                  go_wp2_with fail
                  refine wp_region_below (by kernel_rfl) (by kernel_rfl) ?_
                  repeat (first | go_big_quiet_skip | (go_big_quiet_want; go_big_quiet_op; go_big_quiet_on) | (go_big_quiet_want; go_big_quiet_op; apply Exists.intro; refine ⟨fun x => ?_, ?_⟩; (fail); go_big_quiet_on))
                  refine wpQuiet_nil ?_
                  intro _ hx
                  obtain ⟨⟨w4, hb4⟩, rfl⟩ := hx
                  rename_i w4
                  have hbw4 := below_chain Hbj.out hb4
                  have own4 := own_next Hoj0.out hb4
                  have hd4 := Hhj.out.next hb4
                  have sz4 := Nat.le_trans hwj hb4.size
                  have Hb4 := Lib.hid hbw4
                  have Ho4 := Lib.hid own4
                  have Hd4 := Lib.hid hd4
                  have hgw4 : w.heap.size ≤ w4.heap.size := hbw4.size
                  clear hbw4 own4 hd4 fe0 fe1 fe2
                  obtain ⟨z0, z1, z2⟩ := row3 (show Row w4 E 40 [.int .u64 (eb.1 : Nat), .int .i64 eb.2.1, .int .i64 eb.2.2] from Hrj.out.next hb4)
                  go_wp2_with (first
                    | (at_builtin; refine wpList_append_reads _ rfl _ _ 36 rfl w1.heap.size 40 i0 _ 3 24 Try.underlying36 hi0 hz0 hz1 hz2 rfl (by decide) _ 0 _ rfl (own_next Ho4.out (belowLitM _ _)) _ 1 (entsC [eb]) rfl (ents_litM _ eb) (entsC_oneM _) (by unfold maxLen; omega) (by omega) (by simp only [World.size_alloc]; omega) ?_; intro v5 w5 hown5 hg5; obtain ⟨A5, c5, rfl, -, -, -, -⟩ := Reads.of_own hown5))
                  have hb5 := (Hb4.out.alloc Hb4.out.size (.cells #[.int .u64 (eb.1 : Nat), .int .i64 eb.2.1, .int .i64 eb.2.2] 40)).grown hg5 (Hb4.out.alloc Hb4.out.size _).size (fun k hk => Nat.le_trans HW (own_block_ge Ho4.out k hk))
                  have hd5 := (Hd4.out.next (belowLitM _ (.cells #[.int .u64 (eb.1 : Nat), .int .i64 eb.2.1, .int .i64 eb.2.2] 40))).grown hg5 (fun h => by have := own_block_ge Ho4.out _ h.symm; omega)
                  have hs5 : w1.heap.size ≤ w5.heap.size := by have := hg5.size; simp only [World.size_alloc] at this; omega
                  have H5 := Lib.hid hd5.lens
                  have H6 := Lib.hid hd5
                  have H7 := Lib.hid hb5
                  have H8 := Lib.hid hown5
                  clear hd5 hb5 hown5
                  go_wp2
                  go_roundw
                  case rel => exact ⟨lf.map (offM eb), outM [] eb, A5, c5, by rw [Hou.out]; simp, by rw [Hou.out, entsC_appendM]; simpa using H8.out, H6.out, H7.out, hs5, HT.out, by rw [Hou.out]; exact HOkn.out, by rw [Hou.out, List.length_append]; have := HS2.out; simp only [List.length_singleton]; simp only [List.length_nil] at *; omega⟩
                  case measure => (have h6 := HS2.out); (have h7 := Hm0.out); (have h8 := H5.out); rw [h7, h8]; exact h6
                · have hou : ∀ h : last ≠ eb, outM o eb = o ++ [eb] := fun h => by unfold outM; rw [hgl, if_neg (by simpa using h)]
                  have hou2 : last = eb → outM o eb = o := fun h => by unfold outM; rw [hgl, if_pos (by rw [h])]
                  have hne : o ≠ [] := fun h => by rw [h] at hgl; cases hgl
                  have hpos := List.length_pos_iff.2 hne
                  obtain ⟨p, hp⟩ : ∃ p, o.length = p + 1 := ⟨o.length - 1, by omega⟩
                  rw [List.getLast?_eq_getElem?, hp, Nat.add_sub_cancel] at hgl
                  obtain ⟨b0, off0, rfl, hb0, hcc⟩ := hoE.later hpos
                  have v1 : IntKind.i64.wrap ((o.length : Int) - 1) = (p : Int) := by rw [IntKind.wrap_i64]; omega
                  have v2 : (0 : Int) ≤ (p : Int) := by omega
                  have v3 : (p : Int) < o.length := by omega
                  have v4 : (0 : Int) < o.length := by omega
                  have v5' : ((o.length : Int) == 0) = false := by simp; omega
                  have fo := fun x : Later wr => hcc p last hgl x.it x.ok
                  have fo0 := fun x => (fo x).1
                  have fo1 := fun x => (fo x).2.1
                  have fo2 := fun x => (fo x).2.2
                  have Hou := Lib.hid hou
                  have Hou2 := Lib.hid hou2
                  have Hp := Lib.hid hp
                  clear fo hou hou2 hcc hoE hp
                  by_cases hle : last = eb
                  · subst hle
                    go_wp2_with fail
                    refine wp_region_below (by kernel_rfl) (by kernel_rfl) ?_
                    repeat (first | go_big_quiet_skip | (go_big_quiet_want; go_big_quiet_op; go_big_quiet_on) | (go_big_quiet_want; go_big_quiet_op; apply Exists.intro; refine ⟨fun x => ?_, ?_⟩; (fail); go_big_quiet_on))
                    refine wpQuiet_nil ?_
                    intro _ hx
                    obtain ⟨⟨w4, hb4⟩, rfl⟩ := hx
                    rename_i w4
                    have hd4 := Hhj.out.next hb4
                    have H5 := Lib.hid hd4.lens
                    have H4 := Lib.hid hd4
                    clear hd4
                    go_wp2
                    go_roundw
                    case rel => exact ⟨lf.map (offM last), o, _, c0, rfl, own_next Hoj.out hb4, H4.out, below_chain Hbj.out hb4, Nat.le_trans hwj hb4.size, by have := HT.out; rw [Hou2.out trivial] at this; exact this, Hoo.out, by have := HS2.out; omega⟩
                    case measure => (have h6 := HS2.out); (have h7 := Hm0.out); (have h8 := H5.out); rw [h7, h8]; exact h6
                  · have hne2 := ent_ne hle
                    go_wp2_with fail
                    refine wp_region_below (by kernel_rfl) (by kernel_rfl) ?_
                    repeat (first | go_big_quiet_skip | (go_big_quiet_want; go_big_quiet_op; go_big_quiet_on) | (go_big_quiet_want; go_big_quiet_op; apply Exists.intro; refine ⟨fun x => ?_, ?_⟩; (fail); go_big_quiet_on))
                    refine wpQuiet_nil ?_
                    intro _ hx
                    obtain ⟨⟨w4, hb4⟩, rfl⟩ := hx
                    rename_i w4
                    have hbw4 := below_chain Hbj.out hb4
                    have own4 := own_next Hoj.out hb4
                    have hd4 := Hhj.out.next hb4
                    have sz4 := Nat.le_trans hwj hb4.size
                    have Hb4 := Lib.hid hbw4
                    have Ho4 := Lib.hid own4
                    have Hd4 := Lib.hid hd4
                    have hgw4 : w.heap.size ≤ w4.heap.size := hbw4.size
                    clear hbw4 own4 hd4 fe0 fe1 fe2
                    obtain ⟨z0, z1, z2⟩ := row3 (show Row w4 E 40 [.int .u64 (eb.1 : Nat), .int .i64 eb.2.1, .int .i64 eb.2.2] from Hrj.out.next hb4)
                    go_wp2_with (first
                      | (at_builtin; refine wpList_append_reads _ rfl _ _ 36 rfl w1.heap.size 40 i0 _ 3 24 Try.underlying36 hi0 hz0 hz1 hz2 rfl (by decide) _ o.length _ rfl (own_next Ho4.out (belowLitM _ _)) _ 1 (entsC [eb]) rfl (ents_litM _ eb) (entsC_oneM _) (by unfold maxLen; omega) (by omega) (by simp only [World.size_alloc]; omega) ?_; intro v5 w5 hown5 hg5; obtain ⟨A5, c5, rfl, -, -, -, -⟩ := Reads.of_own hown5))
                    have hb5 := (Hb4.out.alloc Hb4.out.size (.cells #[.int .u64 (eb.1 : Nat), .int .i64 eb.2.1, .int .i64 eb.2.2] 40)).grown hg5 (Hb4.out.alloc Hb4.out.size _).size (fun k hk => Nat.le_trans HW (own_block_ge Ho4.out k hk))
                    have hd5 := (Hd4.out.next (belowLitM _ (.cells #[.int .u64 (eb.1 : Nat), .int .i64 eb.2.1, .int .i64 eb.2.2] 40))).grown hg5 (fun h => by have := own_block_ge Ho4.out _ h.symm; omega)
                    have hs5 : w1.heap.size ≤ w5.heap.size := by have := hg5.size; simp only [World.size_alloc] at this; omega
                    have H5 := Lib.hid hd5.lens
                    have H6 := Lib.hid hd5
                    have H7 := Lib.hid hb5
                    have H8 := Lib.hid hown5
                    clear hd5 hb5 hown5
                    go_wp2
                    go_roundw
                    case rel => exact ⟨lf.map (offM eb), outM o eb, A5, c5, by rw [Hou.out hle]; simp, by rw [Hou.out hle, entsC_appendM]; simpa using H8.out, H6.out, H7.out, hs5, HT.out, by rw [Hou.out hle]; exact HOkn.out, by rw [Hou.out hle, List.length_append]; have := HS2.out; simp only [List.length_singleton]; omega⟩
                    case measure => (have h6 := HS2.out); (have h7 := Hm0.out); (have h8 := H5.out); rw [h7, h8]; exact h6
end Go.Proofs.Ytigjjggkcagkmaa
