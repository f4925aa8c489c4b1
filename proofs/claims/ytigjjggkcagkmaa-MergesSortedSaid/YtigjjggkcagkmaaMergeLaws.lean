/-
  MERGES: the laws' own functions: great, of, rising.
-/
import Derived.Test.YtigjjggkcagkmaaMergeOwn
namespace Go.Proofs.Ytigjjggkcagkmaa
open Go.RowKit
set_option linter.unusedVariables false

theorem any_take_succM {l : List (List Ent)} {k : Nat} {e : List Ent} (h : l[k]? = some e) : ((l.take (k + 1)).any fun l => decide (60 < l.length)) = (((l.take k).any fun l => decide (60 < l.length)) || decide (60 < e.length)) := by
  rw [List.take_add_one, h, List.any_append]; simp
/-- The k-th list of a list of lists, now and later. -/
theorem Lists.at {w : World} {A : Option Addr} {n c : Nat} {ls : List (List Ent)} (h : Lists w (.slice A n c) ls) {k : Nat} {l : List Ent} (hl : ls[k]? = some l) :
    ∃ b off A' c', A = some ⟨b, off, none⟩ ∧ (∀ w', Below w.heap.size w w' → w'.cell? ⟨b, off + k, none⟩ = some (.slice A' l.length c')) ∧ Ents w (.slice A' l.length c') l ∧ l.length ≤ c' ∧ c' ≤ maxLen := by
  obtain ⟨vs, h1, ⟨A0, c0, hv, -, -, -, hcell⟩, hx⟩ := h
  cases hv
  have hk := (List.getElem?_eq_some_iff.1 hl).1
  obtain ⟨b, off, rfl, hlt, hc⟩ := hcell (by omega)
  have hk2 : k < vs.length := by omega
  have hE := hx k vs[k] l (List.getElem?_eq_getElem hk2) hl
  obtain ⟨⟨A', c', hv', -, -, -, -⟩, hok⟩ := id hE
  rw [hv'] at hE
  obtain ⟨-, q1, q2, -⟩ := hE.cells
  refine ⟨b, off, A', c', rfl, fun w' hb => ?_, hE, q1, q2⟩
  rw [← hv', ← hc k hk2]
  exact hb.cell (p := ⟨b, off + k, none⟩) hlt
theorem Lists.head {w : World} {v : Value} {ls : List (List Ent)} (h : Lists w v ls) : ∃ A c, v = .slice A ls.length c ∧ ls.length ≤ c ∧ c ≤ maxLen := by
  obtain ⟨vs, h1, ⟨A0, c0, hv, q1, q2, -, hcell⟩, hx⟩ := h
  exact ⟨A0, c0, by rw [hv, h1], by omega, q2⟩
set_option maxHeartbeats 1000000 in
theorem law_great (v : Value) (ls : List (List Ent)) (w : World) (h : Lists w v ls) :
    Calls Try.prog 24 #[v] w fun e w' => e = .returned (.bool (greatM ls)) ∧ Below w.heap.size w w' := by
  obtain ⟨A, c, rfl, hc1, hc2⟩ := h.head
  unfold maxLen at hc2
  obtain ⟨n, hn⟩ : ∃ n, n = ls.length := ⟨_, rfl⟩
  have H := Lib.hid h
  have Hn := Lib.hid hn
  rw [← hn] at hc1 ⊢
  clear h hn
  by_cases hlen : n ≤ 12
  · have i0 : ¬ (12 : Int) < n := by omega
    go_enter Try.func24, Try.ntmps24
    go_wp2_with fail
    go_loopw [3] (fun i wr => ∃ k : Nat, k ≤ n ∧ i = .int .i64 (k : Int) ∧ ((ls.take k).any fun l => decide (60 < l.length)) = false ∧ w = wr) (fun i _ => n - (intOf i).toNat)
    case atStart => exact ⟨0, Nat.zero_le _, rfl, rfl, rfl⟩
    case round =>
      obtain ⟨k, hk, rfl, hany, rfl⟩ := hrel
      have Hany := Lib.hid hany
      clear hany
      by_cases hlt : k < n
      · have i1 : (k : Int) < n := by omega
        obtain ⟨l, hl⟩ : ∃ l, ls[k]? = some l := ⟨_, List.getElem?_eq_getElem (by have := Hn.out; omega)⟩
        obtain ⟨b, off, A', c', rfl, hcell, -, q1, q2⟩ := H.out.at hl
        have f0 := hcell _ (Below.refl _ _)
        unfold maxLen at q2
        have Hl := Lib.hid hl
        clear hcell hl
        by_cases h60 : 60 < l.length
        · have i2 : (60 : Int) < l.length := by omega
          have hg : greatM ls = true := by
            unfold greatM
            rw [Bool.or_eq_true]
            exact .inr (List.any_eq_true.2 ⟨l, List.mem_of_getElem? Hl.out, by simpa using h60⟩)
          go_wp2
          go_ret
          exact ⟨by first | rfl | (rw [hg]; rfl), Below.refl _ _⟩
        · have i2 : ¬ (60 : Int) < l.length := by omega
          have h61 : decide (60 < l.length) = false := decide_eq_false h60
          have H61 := Lib.hid h61
          clear h61
          go_wp2
          go_roundw
          case rel => exact ⟨k + 1, by omega, by go_num, by rw [any_take_succM Hl.out, Hany.out, H61.out]; rfl, by first | trivial | rfl⟩
          case measure => simp [intOf]; omega
      · obtain rfl : k = n := by omega
        have i1 : ¬ (k : Int) < k := by omega
        have hg : greatM ls = false := by
          unfold greatM
          rw [Bool.or_eq_false_iff]
          refine ⟨decide_eq_false (by have := Hn.out; omega), ?_⟩
          have := Hany.out
          rwa [Hn.out, List.take_of_length_le (Nat.le_refl _)] at this
        go_wp2
        go_ret
        exact ⟨by first | rfl | (rw [hg]; rfl), Below.refl _ _⟩
  · have i0 : (12 : Int) < n := by omega
    have hg : greatM ls = true := by
      unfold greatM
      rw [Bool.or_eq_true]
      exact .inl (decide_eq_true (by have := Hn.out; omega))
    rw [hg]
    go_enter Try.func24, Try.ntmps24
    go_wp2
    go_ret
    exact ⟨rfl, Below.refl _ _⟩
def ofE (xs : List Int) : List Ent := xs.map fun x => (0, x, 0)
theorem ofE_succ {xs : List Int} {k : Nat} {x : Int} (h : xs[k]? = some x) : ofE (xs.take (k + 1)) = ofE (xs.take k) ++ [(0, x, 0)] := by
  unfold ofE; rw [List.take_add_one, h]; simp
theorem ofE_len (xs : List Int) : (ofE xs).length = xs.length := by simp [ofE]
set_option maxHeartbeats 1000000 in
theorem law_of (v : Value) (xs : List Int) (w : World) (h : Reads w v 1 xs.length (intsC xs)) (hn : xs.length ≤ 1000) :
    Calls Try.prog 42 #[v] w fun e w' => ∃ A c, e = .returned (.slice A xs.length c) ∧ w'.ownsRow w.heap.size 40 3 (.slice A xs.length c) xs.length (entsC (ofE xs)) ∧ Below w.heap.size w w' := by
  obtain ⟨A, c, rfl, hc1, hc2, -, hcell⟩ := h
  unfold maxLen at hc2
  obtain ⟨n, hN⟩ : ∃ n, n = xs.length := ⟨_, rfl⟩
  have HN := Lib.hid hN
  have Hc := Lib.hid hcell
  rw [← hN] at hn hc1 ⊢
  clear hcell hN
  obtain ⟨i0, hi0, hz0, hz1, hz2⟩ := info_parts infoEntM
  go_enter Try.func42, Try.ntmps42
  go_wp2_with fail
  go_loopw [3, 4] (fun out i wr => ∃ (k : Nat) (A' : Option Addr) (c' : Nat), k ≤ n ∧ i = .int .i64 (k : Int) ∧ out = .slice A' k c' ∧ wr.ownsRow w.heap.size 40 3 (.slice A' k c') k (entsC (ofE (xs.take k))) ∧ Below w.heap.size w wr) (fun _ i _ => n - (intOf i).toNat)
  case atStart => exact ⟨0, none, 0, Nat.zero_le _, rfl, rfl, World.ownsRow_nil _ _ _ _, Below.refl _ _⟩
  case round =>
    obtain ⟨k, A', c', hk, rfl, rfl, hown, hbr⟩ := hrel
    have Hown := Lib.hid hown
    clear hown
    have hbs := hbr.size
    by_cases hlt : k < n
    · have i1 : (k : Int) < n := by omega
      obtain ⟨x, hx⟩ : ∃ x, xs[k]? = some x := ⟨_, List.getElem?_eq_getElem (by have := HN.out; omega)⟩
      obtain ⟨b, off, rfl, hblt, hcc⟩ := Hc.out (by have := HN.out; omega)
      have hkk : k < xs.length := (List.getElem?_eq_some_iff.1 hx).1
      have f0 : wr.cell? ⟨b, off + k, none⟩ = some (.int .i64 x) := by
        rw [hbr.cell (p := ⟨b, off + k, none⟩) hblt, hcc k (by simpa using hkk)]
        rw [List.getElem?_eq_getElem hkk, Option.some.injEq] at hx
        simp [intsC, hx]
      have Hx := Lib.hid hx
      have HO := Lib.hid (own_next Hown.out (belowLitM wr (.cells #[.int .u64 0, .int .i64 x, .int .i64 0] 40)))
      clear hx hcc
      go_wp2_with (first
        | (at_builtin; refine wpList_append_reads _ rfl _ _ 36 rfl w.heap.size 40 i0 _ 3 24 Try.underlying36 hi0 hz0 hz1 hz2 rfl (by decide) _ k _ rfl HO.out _ 1 (entsC [(0, x, 0)]) rfl (ents_litM _ (0, x, 0)) (entsC_oneM _) (by unfold maxLen; omega) (by omega) (by simp only [World.size_alloc]; omega) ?_; intro v5 w5 hown5 hg5; obtain ⟨A5, c5, rfl, -, -, -, -⟩ := Reads.of_own hown5))
      have hb5 := (hbr.alloc hbr.size (.cells #[.int .u64 0, .int .i64 x, .int .i64 0] 40)).grown hg5 (hbr.alloc hbr.size _).size (fun k hk => own_block_ge Hown.out k hk)
      have H7 := Lib.hid hb5
      have H8 := Lib.hid hown5
      clear hb5 hown5
      go_wp2
      go_roundw
      case rel => exact ⟨k + 1, A5, c5, by omega, by go_num, rfl, by rw [ofE_succ Hx.out, entsC_appendM]; exact H8.out, H7.out⟩
      case measure => simp [intOf]; omega
    · obtain rfl : k = n := by omega
      have i1 : ¬ (k : Int) < k := by omega
      have hall : xs.take k = xs := List.take_of_length_le (by have := HN.out; omega)
      rw [hall] at Hown
      go_wp2
      go_ret
      exact ⟨A', c', rfl, Hown.out, hbr⟩
set_option maxRecDepth 4000 in
set_option maxHeartbeats 4000000 in
theorem law_rising (v : Value) (ls : List (List Ent)) (w : World) (h : Lists w v ls) (hn : ls.length ≤ 1000) (ht : totalM ls ≤ 1000000) :
    Calls Try.prog 29 #[v] w fun e w' => ∃ A c, e = .returned (.slice A ls.length c) ∧ (∃ vs, Own2 w' w.heap.size (.slice A ls.length c) (ls.map rise) vs) ∧ Below w.heap.size w w' := by
  obtain ⟨A, c, rfl, hc1, hc2⟩ := h.head
  unfold maxLen at hc2
  obtain ⟨n, hnl⟩ : ∃ n, n = ls.length := ⟨_, rfl⟩
  have hlen : ∀ (k : Nat) (l : List Ent), ls[k]? = some l → l.length ≤ 1000000 := fun k l hl => by
    have h1 : l ∈ ls := List.mem_of_getElem? hl
    have h2 := total_mem h1
    omega
  have H := Lib.hid h
  have Hnl := Lib.hid hnl
  have Hlen := Lib.hid hlen
  rw [← hnl] at hc1 hn ⊢
  obtain ⟨j0, gj0, gz0, gz1, gz2⟩ := info_parts infoListM
  obtain ⟨i0, hi0, hz0, hz1, hz2⟩ := info_parts infoEntM
  clear h hnl hlen
  go_enter Try.func29, Try.ntmps29
  go_wp2_with fail
  go_loopw [3, 4] (fun out i wr => ∃ (k : Nat) (A' : Option Addr) (c' : Nat) (vs : List Value), k ≤ n ∧ i = .int .i64 (k : Int) ∧ out = .slice A' k c' ∧ Own2 wr w.heap.size (.slice A' k c') ((ls.take k).map rise) vs ∧ Below w.heap.size w wr) (fun _ i _ => n - (intOf i).toNat)
  case atStart => exact ⟨0, none, 0, [], Nat.zero_le _, rfl, rfl, Own2.nil _ _, Below.refl _ _⟩
  case round =>
    obtain ⟨k, A0, c0, vs, hk, rfl, rfl, hown, hbr⟩ := hrel
    have Hown := Lib.hid hown
    clear hown
    by_cases hlt : k < n
    · have i1 : (k : Int) < n := by omega
      obtain ⟨l, hl⟩ : ∃ l, ls[k]? = some l := ⟨_, List.getElem?_eq_getElem (by have := Hnl.out; omega)⟩
      have hll := Hlen.out k l hl
      obtain ⟨b, off, A1, c1, rfl, hcell, hE, q1, q2⟩ := H.out.at hl
      have Hl := Lib.hid hl
      have Hcell := Lib.hid hcell
      have HE := Lib.hid hE
      unfold maxLen at q2
      clear hl hcell hE
      have hbs := hbr.size
      go_wp2_with fail
      obtain ⟨wo, rfl⟩ : ∃ x, x = wr := ⟨_, rfl⟩
      go_loopw [5, 6] (fun out i wi => ∃ (m : Nat) (A' : Option Addr) (c' : Nat), m ≤ l.length ∧ i = .int .i64 (m : Int) ∧ out = .slice A' (rise (l.take m)).length c' ∧ wi.ownsRow wo.heap.size 40 3 (.slice A' (rise (l.take m)).length c') (rise (l.take m)).length (entsC (rise (l.take m))) ∧ Below wo.heap.size wo wi) (fun _ i _ => l.length - (intOf i).toNat)
      case atStart => exact ⟨0, none, 0, Nat.zero_le _, rfl, rfl, World.ownsRow_nil _ _ _ _, Below.refl _ _⟩
      case round =>
        obtain ⟨m, A', c', hm, rfl, rfl, howni, hbi⟩ := hrel
        have Howni := Lib.hid howni
        clear howni
        have hbW := below_chain hbr hbi
        have hbis := hbi.size
        have f0 := Hcell.out wr hbW
        have f1 := fun x : Later wr => Hcell.out x.it (below_chain hbW x.ok)
        have hrl := rise_len (l.take m)
        rw [List.length_take] at hrl
        by_cases hlt2 : m < l.length
        · have j1 : (m : Int) < l.length := by omega
          obtain ⟨e, he⟩ : ∃ e, l[m]? = some e := ⟨_, List.getElem?_eq_getElem hlt2⟩
          have oe := HE.out.2 e (List.mem_of_getElem? he)
          have hrs := rise_succ he
          obtain ⟨b2, off2, rfl, hb2lt, hcc⟩ := HE.out.later (by omega)
          have ca := fun y : Later wr => hcc m e he y.it (below_chain hbW y.ok)
          have ca0 := fun y => (ca y).1
          have ca1 := fun y => (ca y).2.1
          have ca2 := fun y => (ca y).2.2
          have Hrs := Lib.hid hrs
          have Ho : ∀ x ∈ rise (l.take m), okE x := fun x hx => HE.out.2 x (List.mem_of_mem_take (rise_mem hx))
          have HoE := Lib.hid (show Ents wr (.slice A' (rise (l.take m)).length c') (rise (l.take m)) from ⟨Reads.of_own Howni.out, Ho⟩)
          have HHo := Lib.hid Ho
          clear ca hcc hrs he Ho
          generalize hR : rise (l.take m) = R at Howni HoE HHo Hrs hrl ⊢
          clear hR
          rcases hgl : R.getLast? with _ | last
          · obtain rfl : R = [] := List.getLast?_eq_none_iff.1 hgl
            have hst : stepR [] e = [] ++ [e] := rfl
            rw [hst] at Hrs
            clear hst hgl
            simp only [List.length_nil] at Howni ⊢
            go_wp2_with fail
            refine wp_region_below (by kernel_rfl) (by kernel_rfl) ?_
            repeat (first | go_big_quiet_skip | (go_big_quiet_want; go_big_quiet_op; go_big_quiet_on) | (go_big_quiet_want; go_big_quiet_op; apply Exists.intro; refine ⟨fun x => ?_, ?_⟩; (fail); go_big_quiet_on))
            refine wpQuiet_nil ?_
            intro _ hx
            obtain ⟨⟨w2, hb2⟩, rfl⟩ := hx
            rename_i w2
            have f2 := f1 ⟨w2, hb2⟩
            have u0 := ca0 ⟨w2, hb2⟩
            have u1 := ca1 ⟨w2, hb2⟩
            have u2 := ca2 ⟨w2, hb2⟩
            simp only [] at f2 u0 u1 u2
            have Hb2 := Lib.hid (below_chain hbi hb2)
            have HO := Lib.hid (own_next (own_next Howni.out hb2) (belowLitM w2 (.cells #[.int .u64 (e.1 : Nat), .int .i64 e.2.1, .int .i64 e.2.2] 40)))
            have hs2 : wo.heap.size ≤ w2.heap.size := Hb2.out.size
            clear f0 f1 ca0 ca1 ca2
            go_wp2_with (first
              | (at_builtin; refine wpList_append_reads _ rfl _ _ 36 rfl wo.heap.size 40 i0 _ 3 24 Try.underlying36 hi0 hz0 hz1 hz2 rfl (by decide) _ 0 _ rfl HO.out _ 1 (entsC [e]) rfl (ents_litM _ e) (entsC_oneM _) (by unfold maxLen; omega) (by omega) (by simp only [World.size_alloc]; omega) ?_; intro v5 w5 hown5 hg5; obtain ⟨A5, c5, rfl, -, -, -, -⟩ := Reads.of_own hown5))
            have hb5 := (Hb2.out.alloc Hb2.out.size (.cells #[.int .u64 (e.1 : Nat), .int .i64 e.2.1, .int .i64 e.2.2] 40)).grown hg5 (Hb2.out.alloc Hb2.out.size _).size (fun k hk => own_block_ge Howni.out k hk)
            have H7 := Lib.hid hb5
            have H8 := Lib.hid hown5
            clear hb5 hown5
            go_wp2
            go_roundw
            case rel => exact ⟨m + 1, A5, c5, by omega, by go_num, by rw [Hrs.out]; simp, by rw [Hrs.out, entsC_appendM]; simpa using H8.out, H7.out⟩
            case measure => simp [intOf]; omega
          · have hne : R ≠ [] := fun h => by rw [h] at hgl; cases hgl
            have hst : stepR R e = if lessE last e then R ++ [e] else R := by unfold stepR; rw [hgl]
            have hpos := List.length_pos_iff.2 hne
            obtain ⟨p, hp⟩ : ∃ p, R.length = p + 1 := ⟨R.length - 1, by omega⟩
            rw [List.getLast?_eq_getElem?, hp, Nat.add_sub_cancel] at hgl
            have ol := HHo.out last (List.mem_of_getElem? hgl)
            obtain ⟨b0, off0, rfl, hb0, hcc⟩ := HoE.out.later hpos
            have v1 : IntKind.i64.wrap ((R.length : Int) - 1) = (p : Int) := by rw [IntKind.wrap_i64]; omega
            have v2 : (0 : Int) ≤ (p : Int) := by omega
            have v3 : (p : Int) < R.length := by omega
            have v5' : ((R.length : Int) == 0) = false := by simp; omega
            have fo := fun x : Later wr => hcc p last hgl x.it x.ok
            have fo0 := fun x => (fo x).1
            have fo1 := fun x => (fo x).2.1
            have fo2 := fun x => (fo x).2.2
            have Hst := Lib.hid hst
            have Hp := Lib.hid hp
            clear fo hst hcc hp hgl hne
            go_wp2_with fail
            refine wp_region_below (by kernel_rfl) (by kernel_rfl) ?_
            repeat (first | go_big_quiet_skip | (go_big_quiet_want; go_big_quiet_op; go_big_quiet_on) | (go_big_quiet_want; go_big_quiet_op; apply Exists.intro; refine ⟨fun x => ?_, ?_⟩; (first | (go_at_call 41; exact calls_below x (entries_Less last e _ ol oe))); go_big_quiet_on))
            refine wpQuiet_nil ?_
            intro _ hx
            obtain ⟨⟨w2, hb2⟩, rfl⟩ := hx
            rename_i w2
            rcases hle : lessE last e with _ | _
            · have e1 : stepR R e = R := by rw [Hst.out, hle]; rfl
              have E1 := Lib.hid e1
              have hbx := below_chain hbi hb2
              have hox := own_next Howni.out hb2
              have HBX := Lib.hid hbx
              have HOX := Lib.hid hox
              clear e1 hbx hox f0 f1 ca0 ca1 ca2 fo0 fo1 fo2
              go_wp2
              go_roundw
              case rel => exact ⟨m + 1, _, c', by omega, by go_num, by rw [Hrs.out, E1.out], by rw [Hrs.out, E1.out]; exact HOX.out, HBX.out⟩
              case measure => simp [intOf]; omega
            · have e1 : stepR R e = R ++ [e] := by rw [Hst.out, hle]; rfl
              have E1 := Lib.hid e1
              have f2 := f1 ⟨w2, hb2⟩
              have u0 := ca0 ⟨w2, hb2⟩
              have u1 := ca1 ⟨w2, hb2⟩
              have u2 := ca2 ⟨w2, hb2⟩
              simp only [] at f2 u0 u1 u2
              have Hb2 := Lib.hid (below_chain hbi hb2)
              have HO := Lib.hid (own_next (own_next Howni.out hb2) (belowLitM w2 (.cells #[.int .u64 (e.1 : Nat), .int .i64 e.2.1, .int .i64 e.2.2] 40)))
              have hs2 : wo.heap.size ≤ w2.heap.size := Hb2.out.size
              clear f0 f1 ca0 ca1 ca2 e1 fo0 fo1 fo2
              go_wp2_with (first
                | (at_builtin; refine wpList_append_reads _ rfl _ _ 36 rfl wo.heap.size 40 i0 _ 3 24 Try.underlying36 hi0 hz0 hz1 hz2 rfl (by decide) _ R.length _ rfl HO.out _ 1 (entsC [e]) rfl (ents_litM _ e) (entsC_oneM _) (by unfold maxLen; omega) (by omega) (by simp only [World.size_alloc]; omega) ?_; intro v5 w5 hown5 hg5; obtain ⟨A5, c5, rfl, -, -, -, -⟩ := Reads.of_own hown5))
              have hb5 := (Hb2.out.alloc Hb2.out.size (.cells #[.int .u64 (e.1 : Nat), .int .i64 e.2.1, .int .i64 e.2.2] 40)).grown hg5 (Hb2.out.alloc Hb2.out.size _).size (fun k hk => own_block_ge Howni.out k hk)
              have H7 := Lib.hid hb5
              have H8 := Lib.hid hown5
              clear hb5 hown5
              go_wp2
              go_roundw
              case rel => exact ⟨m + 1, A5, c5, by omega, by go_num, by rw [Hrs.out, E1.out]; simp, by rw [Hrs.out, E1.out, entsC_appendM]; simpa using H8.out, H7.out⟩
              case measure => simp [intOf]; omega
        · obtain rfl : m = l.length := by omega
          have j1 : ¬ (l.length : Int) < l.length := by omega
          have hall : l.take l.length = l := List.take_of_length_le (Nat.le_refl _)
          rw [hall] at Howni hrl ⊢
          have Ho : ∀ x ∈ rise l, okE x := fun x hx => HE.out.2 x (rise_mem hx)
          have HoE := Lib.hid (show Ents wr (.slice A' (rise l).length c') (rise l) from ⟨Reads.of_own Howni.out, Ho⟩)
          have HT := Lib.hid (show (ls.take (k + 1)).map rise = (ls.take k).map rise ++ [rise l] by rw [List.take_add_one, Hl.out]; simp)
          have HO2 := Lib.hid (Hown.out.next hbi)
          have hbl := belowLitM wr (.cells #[.slice A' (rise l).length c'] 36)
          have HO3 := Lib.hid (HO2.out.next hbl)
          have HoE3 := Lib.hid (HoE.out.next hbl)
          have hblk : ∀ b, (Value.slice A' (rise l).length c').ownBlock = some b → (Value.slice A0 k c0).ownBlock ≠ some b := by
            intro b hb h
            have h1 := own_block_ge Howni.out b hb
            have h2 := own_lt Hown.out.2.1 b (by simpa [Value.ownBlock] using h)
            omega
          have Hblk := Lib.hid hblk
          have hlk : ((ls.take k).map rise).length = k := by rw [List.length_map, List.length_take]; have := Hnl.out; omega
          have hown3 := HO3.out.2.1
          rw [hlk] at hown3
          have HO4 := Lib.hid hown3
          have Hlk := Lib.hid hlk
          clear hall Ho hbl hblk hlk hown3 hrl
          go_wp2_with (first
            | (at_builtin; refine wpList_append_own_at _ rfl _ _ 34 rfl w.heap.size 36 j0 _ 1 24 Try.underlying34 gj0 gz0 gz1 gz2 rfl (by decide) (.slice A0 k c0) k vs rfl HO4.out ⟨wr.heap.size, 0, none⟩ 1 1 [.slice A' (rise l).length c'] rfl rfl (cell_one_new _ _ _) (slice_one _ (by simp)) (by unfold maxLen; omega) (by omega) (by simp only [World.size_alloc]; omega) ?_; intro v5 w5 hown5 hg5 _ hat5; obtain ⟨A5, c5, rfl, -, -, -, -⟩ := Reads.of_own hown5))
          have hfin := HO3.out.grow HoE3.out (fun _ => Hblk.out) (by rw [Hlk.out]; exact hown5) hg5 hat5
          have hb5 := ((below_chain hbr hbi).alloc hbW.size (.cells #[.slice A' (rise l).length c'] 36)).grown hg5 (hbW.alloc hbW.size _).size (fun k hk => own_block_ge Hown.out.2.1 k (by simpa [Value.ownBlock] using hk))
          have H7 := Lib.hid hb5
          have H8 := Lib.hid hfin
          clear hb5 hown5 hfin
          go_wp2
          go_roundw
          case rel => exact ⟨k + 1, A5, c5, vs ++ [.slice A' (rise l).length c'], by omega, by go_num, rfl, by rw [HT.out]; exact H8.out, H7.out⟩
          case measure => simp [intOf]; omega
    · obtain rfl : k = n := by omega
      have i1 : ¬ (k : Int) < k := by omega
      have hall : ls.take k = ls := List.take_of_length_le (by have := Hnl.out; omega)
      rw [hall] at Hown
      go_wp2
      go_ret
      exact ⟨A0, c0, rfl, ⟨vs, Hown.out⟩, hbr⟩
end Go.Proofs.Ytigjjggkcagkmaa
