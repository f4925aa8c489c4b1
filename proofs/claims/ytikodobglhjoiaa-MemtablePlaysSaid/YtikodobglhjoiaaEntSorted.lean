/-
  ENTRIES: are they in order? The program's Sorted, and the reference's.
-/
import Derived.Test.YtikodobglhjoiaaEnts
import Derived.Test.YtikodobglhjoiaaEntLaw
namespace Go.Proofs.Ytikodobglhjoiaa
open Go.RowKit
set_option linter.unusedVariables false

/-- An entry's cells, in every later world. -/
theorem Ents.later {w : World} {A : Option Addr} {n c : Nat} {l : List Ent} (h : Ents w (.slice A n c) l) (h0 : 0 < l.length) : ∃ b off, A = some ⟨b, off, none⟩ ∧ b < w.heap.size ∧
    ∀ (i : Nat) (e : Ent), l[i]? = some e → ∀ w' : World, Below w.heap.size w w' → w'.cell? ⟨b, off + i * 3, none⟩ = some (.int .u64 e.1) ∧ w'.cell? ⟨b, off + i * 3 + 1, none⟩ = some (.int .i64 e.2.1) ∧ w'.cell? ⟨b, off + i * 3 + 2, none⟩ = some (.int .i64 e.2.2) := by
  obtain ⟨b, off, hA, hb, hc⟩ := h.cells.2.2.2 h0
  refine ⟨b, off, hA, hb, fun i e hi w' hw' => ?_⟩
  obtain ⟨h1, h2⟩ := List.getElem?_eq_some_iff.1 hi
  rw [← h2]
  exact hc i h1 w' hw'
theorem Ents.ok {w : World} {v : Value} {l : List Ent} (h : Ents w v l) {i : Nat} {e : Ent} (hi : l[i]? = some e) : okE e := h.2 e (List.mem_of_getElem? hi)

set_option maxHeartbeats 400000 in
theorem entries_Sorted (v : Value) (l : List Ent) (w : World) (h : Ents w v l) :
    Calls Try.prog 23 #[v] w fun e w' => e = .returned (.bool (sortedE l)) ∧ Below w.heap.size w w' := by
  obtain ⟨⟨A, c, rfl, -, -, -, -⟩, -⟩ := id h
  obtain ⟨-, h1, h2, -⟩ := h.cells
  unfold maxLen at h2
  have hok := fun (i : Nat) (e : Ent) (hi : l[i]? = some e) => h.ok hi
  rcases Nat.eq_zero_or_pos l.length with h0 | h0
  · obtain rfl := List.eq_nil_of_length_eq_zero h0
    go_enter Try.func23, Try.ntmps23
    go_wp2_with fail
    go_loopw [3] (fun i wr => i = .int .i64 1 ∧ Below w.heap.size w wr) (fun i _ => 0)
    case atStart => exact ⟨rfl, Below.refl _ _⟩
    case round =>
      obtain ⟨rfl, hbr⟩ := hrel
      go_wp2
      go_ret
      exact ⟨rfl, hbr⟩
  · obtain ⟨b, off, rfl, hlt0, hcell⟩ := h.later h0
    obtain ⟨n, hn⟩ : ∃ n, n = l.length := ⟨_, rfl⟩
    rw [← hn] at h1 h0 ⊢
    clear h
    have Hn := Lib.hid hn
    clear hn
    have Hok := Lib.hid hok
    have Hcell := Lib.hid hcell
    clear hok hcell
    go_enter Try.func23, Try.ntmps23
    go_wp2_with fail
    go_loopw [3] (fun i wr => ∃ k : Nat, k < n ∧ i = .int .i64 ((k : Int) + 1) ∧ (∀ j, (hj : j + 1 < l.length) → j < k → lessE l[j] l[j + 1] = true) ∧ Below w.heap.size w wr) (fun i _ => n + 1 - (intOf i).toNat)
    case atStart => exact ⟨0, h0, rfl, fun j _ hj => absurd hj (by omega), Below.refl _ _⟩
    case round =>
      obtain ⟨k, hk, rfl, hp, hbr⟩ := hrel
      have Hp := Lib.hid hp
      clear hp
      by_cases hlt : k + 1 < n
      · obtain ⟨ea, hea⟩ : ∃ ea, l[k]? = some ea := ⟨_, List.getElem?_eq_getElem (by have := Hn.out; omega)⟩
        obtain ⟨eb, heb⟩ : ∃ eb, l[k + 1]? = some eb := ⟨_, List.getElem?_eq_getElem (by have := Hn.out; omega)⟩
        have oa := Hok.out k ea hea
        have ob := Hok.out (k + 1) eb heb
        have ca := fun x : Later wr => Hcell.out k ea hea x.it (below_chain hbr x.ok)
        have cb := fun x : Later wr => Hcell.out (k + 1) eb heb x.it (below_chain hbr x.ok)
        have ca0 := fun x => (ca x).1
        have ca1 := fun x => (ca x).2.1
        have ca2 := fun x => (ca x).2.2
        have cb0 := fun x => (cb x).1
        have cb1 := fun x => (cb x).2.1
        have cb2 := fun x => (cb x).2.2
        have i1 : ((k : Int) + 1) < n := by omega
        have wk : IntKind.i64.wrap ((k : Int) + 1 - 1) = k := by rw [IntKind.wrap_i64]; omega
        have wk2 : IntKind.i64.wrap ((k : Int) + 1 + 1) = k + 1 + 1 := by rw [IntKind.wrap_i64]; omega
        have tk : ((k : Int) + 1).toNat = k + 1 := by omega
        have Hea := Lib.hid hea
        have Heb := Lib.hid heb
        clear ca cb hea heb
        go_wp2_with fail
        refine wp_region_below (by kernel_rfl) (by kernel_rfl) ?_
        repeat (first | go_big_quiet_skip | (go_big_quiet_want; go_big_quiet_op; go_big_quiet_on) | (go_big_quiet_want; go_big_quiet_op; apply Exists.intro; refine ⟨fun x => ?_, ?_⟩; (first | (go_at_call 30; exact calls_below x (entries_Less ea eb _ oa ob))); go_big_quiet_on))
        refine wpQuiet_nil ?_
        intro _ hx
        obtain ⟨⟨w1, hb1⟩, rfl⟩ := hx
        rcases hls : lessE ea eb with _ | _
        · go_wp2
          go_ret
          have e1 := List.getElem?_eq_some_iff.1 Hea.out
          have e2 := List.getElem?_eq_some_iff.1 Heb.out
          exact ⟨by rw [not_sortedE (i := k) (by have := Hn.out; omega) (by rw [e1.2, e2.2]; exact hls)]; rfl, below_chain hbr hb1⟩
        · go_wp2
          go_roundw
          case rel =>
            refine ⟨k + 1, by omega, by go_num, fun j hj hjk => ?_, below_chain hbr hb1⟩
            rcases Nat.lt_or_ge j k with h5 | h5
            · exact Hp.out j hj h5
            · obtain rfl : j = k := by omega
              have e1 := List.getElem?_eq_some_iff.1 Hea.out
              have e2 := List.getElem?_eq_some_iff.1 Heb.out
              rw [e1.2, e2.2]; exact hls
          case measure => simp [intOf]; omega
      · have i1 : ¬ ((k : Int) + 1) < n := by omega
        go_wp2
        go_ret
        exact ⟨by rw [sortedE_of_next (fun i hi => Hp.out i hi (by have := Hn.out; omega))]; rfl, hbr⟩

end Go.Proofs.Ytikodobglhjoiaa
