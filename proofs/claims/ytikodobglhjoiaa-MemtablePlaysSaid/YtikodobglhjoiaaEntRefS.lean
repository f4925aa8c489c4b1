/-
  ENTRIES, the reference's: Sorted and Search.
-/
import Derived.Test.YtikodobglhjoiaaEntSorted
namespace Go.Proofs.Ytikodobglhjoiaa
open Go.RowKit
set_option linter.unusedVariables false

theorem filter_take_succ {p : Ent → Bool} {l : List Ent} {k : Nat} {e : Ent} (h : l[k]? = some e) : (l.take (k + 1)).filter p = (l.take k).filter p ++ [e].filter p := by
  rw [List.take_add_one, h, List.filter_append]; rfl

set_option maxHeartbeats 400000 in
theorem ref_Sorted (v : Value) (l : List Ent) (w : World) (h : Ents w v l) :
    Calls Try.prog 24 #[v] w fun e w' => e = .returned (.bool (sortedE l)) ∧ Below w.heap.size w w' := by
  obtain ⟨⟨A, c, rfl, -, -, -, -⟩, -⟩ := id h
  obtain ⟨-, h1, h2, -⟩ := h.cells
  unfold maxLen at h2
  have hok := fun (i : Nat) (e : Ent) (hi : l[i]? = some e) => h.ok hi
  rcases Nat.eq_zero_or_pos l.length with h0 | h0
  · obtain rfl := List.eq_nil_of_length_eq_zero h0
    go_enter Try.func24, Try.ntmps24
    go_wp2_with fail
    go_loopw [3] (fun i wr => i = .int .i64 0 ∧ Below w.heap.size w wr) (fun i _ => 0)
    case atStart => exact ⟨rfl, Below.refl _ _⟩
    case round =>
      obtain ⟨rfl, hbr⟩ := hrel
      go_wp2
      go_ret
      exact ⟨rfl, hbr⟩
  · obtain ⟨b, off, rfl, hlt0, hcell⟩ := h.later h0
    obtain ⟨n, hn⟩ : ∃ n, n = l.length := ⟨_, rfl⟩
    rw [← hn] at h1 h0 ⊢
    clear h
    have Hn := Lib.hid hn
    clear hn
    have Hok := Lib.hid hok
    have Hcell := Lib.hid hcell
    clear hok hcell
    go_enter Try.func24, Try.ntmps24
    go_wp2_with fail
    go_loopw [3] (fun i wr => ∃ k : Nat, k < n ∧ i = .int .i64 (k : Int) ∧ (∀ j, (hj : j + 1 < l.length) → j < k → lessE l[j] l[j + 1] = true) ∧ Below w.heap.size w wr) (fun i _ => n - (intOf i).toNat)
    case atStart => exact ⟨0, h0, rfl, fun j _ hj => absurd hj (by omega), Below.refl _ _⟩
    case round =>
      obtain ⟨k, hk, rfl, hp, hbr⟩ := hrel
      have Hp := Lib.hid hp
      clear hp
      have wk1 : IntKind.i64.wrap ((k : Int) + 1) = k + 1 := by rw [IntKind.wrap_i64]; omega
      by_cases hlt : k + 1 < n
      · obtain ⟨ea, hea⟩ : ∃ ea, l[k]? = some ea := ⟨_, List.getElem?_eq_getElem (by have := Hn.out; omega)⟩
        obtain ⟨eb, heb⟩ : ∃ eb, l[k + 1]? = some eb := ⟨_, List.getElem?_eq_getElem (by have := Hn.out; omega)⟩
        have oa := Hok.out k ea hea
        have ob := Hok.out (k + 1) eb heb
        have ca := fun x : Later wr => Hcell.out k ea hea x.it (below_chain hbr x.ok)
        have cb := fun x : Later wr => Hcell.out (k + 1) eb heb x.it (below_chain hbr x.ok)
        have ca0 := fun x => (ca x).1
        have ca1 := fun x => (ca x).2.1
        have ca2 := fun x => (ca x).2.2
        have cb0 := fun x => (cb x).1
        have cb1 := fun x => (cb x).2.1
        have cb2 := fun x => (cb x).2.2
        have i1 : ((k : Int) + 1) < n := by omega
        have tk : ((k : Int) + 1).toNat = k + 1 := by omega
        have Hea := Lib.hid hea
        have Heb := Lib.hid heb
        clear ca cb hea heb
        go_wp2_with fail
        refine wp_region_below (by kernel_rfl) (by kernel_rfl) ?_
        repeat (first | go_big_quiet_skip | (go_big_quiet_want; go_big_quiet_op; go_big_quiet_on) | (go_big_quiet_want; go_big_quiet_op; apply Exists.intro; refine ⟨fun x => ?_, ?_⟩; (first | (go_at_call 31; exact calls_below x (ref_Less ea eb _ oa ob))); go_big_quiet_on))
        refine wpQuiet_nil ?_
        intro _ hx
        obtain ⟨⟨w1, hb1⟩, rfl⟩ := hx
        rcases hls : lessE ea eb with _ | _
        · go_wp2
          go_ret
          have e1 := List.getElem?_eq_some_iff.1 Hea.out
          have e2 := List.getElem?_eq_some_iff.1 Heb.out
          exact ⟨by rw [not_sortedE (i := k) (by have := Hn.out; omega) (by rw [e1.2, e2.2]; exact hls)]; rfl, below_chain hbr hb1⟩
        · go_wp2
          go_roundw
          case rel =>
            refine ⟨k + 1, by omega, by go_num, fun j hj hjk => ?_, below_chain hbr hb1⟩
            rcases Nat.lt_or_ge j k with h5 | h5
            · exact Hp.out j hj h5
            · obtain rfl : j = k := by omega
              have e1 := List.getElem?_eq_some_iff.1 Hea.out
              have e2 := List.getElem?_eq_some_iff.1 Heb.out
              rw [e1.2, e2.2]; exact hls
          case measure => simp [intOf]; omega
      · have i1 : ¬ ((k : Int) + 1) < n := by omega
        go_wp2
        go_ret
        exact ⟨by rw [sortedE_of_next (fun i hi => Hp.out i hi (by have := Hn.out; omega))]; rfl, hbr⟩

set_option maxHeartbeats 1000000 in
theorem ref_Search (v : Value) (l : List Ent) (h : Nat) (ver : Int) (w : World) (hl : Ents w v l) (hh : h < 18446744073709551616) (hv : -9223372036854775808 ≤ ver ∧ ver ≤ 9223372036854775807) :
    Calls Try.prog 20 #[v, .int .u64 h, .int .i64 ver] w fun e w' => e = .returned (.int .i64 (searchE l h ver)) ∧ Below w.heap.size w w' := by
  obtain ⟨⟨A, c, rfl, -, -, -, -⟩, -⟩ := id hl
  obtain ⟨-, h1, h2, -⟩ := hl.cells
  unfold maxLen at h2
  have hok := fun (i : Nat) (e : Ent) (hi : l[i]? = some e) => hl.ok hi
  have hcell := fun h0 => hl.later h0
  obtain ⟨n, hn⟩ : ∃ n, n = l.length := ⟨_, rfl⟩
  rw [← hn] at h1 ⊢
  clear hl
  have Hn := Lib.hid hn
  have Hok := Lib.hid hok
  have Hcell := Lib.hid hcell
  clear hok hcell hn
  go_enter Try.func20, Try.ntmps20
  go_wp2_with fail
  go_loopw [7, 8] (fun s i wr => ∃ k m : Nat, k ≤ n ∧ m ≤ k ∧ i = .int .i64 (k : Int) ∧ s = .int .i64 (m : Int) ∧ ((l.take k).filter fun e => aheadE e h ver).length = m ∧ Below w.heap.size w wr) (fun _ i _ => n - (intOf i).toNat)
  case atStart => exact ⟨0, 0, by omega, by omega, rfl, rfl, rfl, Below.refl _ _⟩
  case round =>
    obtain ⟨k, m, hk, hm, rfl, rfl, hp, hbr⟩ := hrel
    have Hp := Lib.hid hp
    clear hp
    by_cases hlt : k < n
    · obtain ⟨e, he⟩ : ∃ e, l[k]? = some e := ⟨_, List.getElem?_eq_getElem (by have := Hn.out; omega)⟩
      have oe := Hok.out k e he
      have hst := filter_take_succ (p := fun e => aheadE e h ver) he
      obtain ⟨b, off, rfl, hlt0, hcell⟩ := Hcell.out (by have := Hn.out; omega)
      obtain ⟨c0, c1, -⟩ := hcell k e he wr hbr
      obtain ⟨x1, x2, x3⟩ := e
      obtain ⟨o1, o2, o3⟩ := oe
      simp only [] at c0 c1 o1 o2
      have i1 : (k : Int) < n := by omega
      have Hst := Lib.hid hst
      clear he hcell hst
      by_cases g1 : (x1 : Int) < h
      · have hah : aheadE (x1, x2, x3) h ver = true := by simp [aheadE]; omega
        go_wp2
        go_roundw
        case rel => exact ⟨k + 1, m + 1, by omega, by omega, by go_num, by go_num, by rw [Hst.out]; simp [hah, Hp.out], hbr⟩
        case measure => simp [intOf]; omega
      · by_cases g2 : x1 = h
        · subst g2
          by_cases g3 : x2 < ver
          · have hah : aheadE (x1, x2, x3) x1 ver = true := by simp [aheadE, g3]
            go_wp2
            go_roundw
            case rel => exact ⟨k + 1, m + 1, by omega, by omega, by go_num, by go_num, by rw [Hst.out]; simp [hah, Hp.out], hbr⟩
            case measure => simp [intOf]; omega
          · have hah : aheadE (x1, x2, x3) x1 ver = false := by simp [aheadE]; omega
            go_wp2
            go_roundw
            case rel => exact ⟨k + 1, m, by omega, by omega, by go_num, rfl, by rw [Hst.out]; simp [hah, Hp.out], hbr⟩
            case measure => simp [intOf]; omega
        · have g2' : ¬ (x1 : Int) = h := by omega
          have hah : aheadE (x1, x2, x3) h ver = false := by simp [aheadE]; omega
          go_wp2
          go_roundw
          case rel => exact ⟨k + 1, m, by omega, by omega, by go_num, rfl, by rw [Hst.out]; simp [hah, Hp.out], hbr⟩
          case measure => simp [intOf]; omega
    · have i1 : ¬ (k : Int) < n := by omega
      have hse : searchE l h ver = m := by
        have := Hp.out
        rw [List.take_of_length_le (by have := Hn.out; omega)] at this
        exact this
      go_wp2
      go_ret
      exact ⟨by first | rfl | (rw [hse]; rfl), hbr⟩
end Go.Proofs.Ytikodobglhjoiaa
