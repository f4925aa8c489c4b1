/-
  LISTS OF EVENTS: how they lie in memory; the iterator over a list of them; are two the same (the reference's).
-/
import Derived.RangeFuncNested
import Derived.RangeFuncBound
import Derived.RangeFuncCalls
import Derived.RangeFuncLeaves
import Derived.Shelf.Abstract
import Derived.Shelf.RegionOpen
import Derived.WalkKit
import Derived.OwnWalkIn
import Derived.TacticsInMore
import Derived.LoopNIn
import Derived.LoopIn
import Derived.RangeFuncBox
import Derived.RangeFuncKeeps
import Derived.Maps.AppendAt
import Derived.Test.YtiojapjidgjaoaaEvRead
import Derived.Test.YtiojapjidgjaoaaEvRef
namespace Go.Proofs.Ytiojapjidgjaoaa
open Go.RowKit Go.Shelf
set_option linter.unusedVariables false

theorem Reads.each {α : Type} {f : α → List Value} {size : Nat} (hf : ∀ x, (f x).length = size) {w : World} {A : Option Addr} {n c : Nat} {l : List α} (h : Reads w (.slice A n c) size l.length (l.flatMap f)) :
    n = l.length ∧ n ≤ c ∧ c ≤ maxLen ∧ (0 < l.length → ∃ b off, A = some ⟨b, off, none⟩ ∧ b < w.heap.size ∧
      ∀ (i : Nat) (x : α), l[i]? = some x → ∀ w' : World, Below w.heap.size w w' → ∀ j (hj : j < size), w'.cell? ⟨b, off + (i * size + j), none⟩ = (f x)[j]?) := by
  obtain ⟨A', c', hv, h1, h2, hl, hc⟩ := h
  obtain ⟨rfl, rfl, rfl⟩ := Value.slice.inj hv
  refine ⟨rfl, h1, h2, fun h0 => ?_⟩
  obtain ⟨b, off, hA, hlt, hcell⟩ := hc h0
  refine ⟨b, off, hA, hlt, fun i x hi w' hb j hj => ?_⟩
  obtain ⟨hil, hx⟩ := List.getElem?_eq_some_iff.1 hi
  have hq := flatMap_get f size hf l i j hil hj
  have hlen : i * size + j < (l.flatMap f).length := by
    rw [hl]
    have : (i + 1) * size ≤ l.length * size := Nat.mul_le_mul_right _ hil
    rw [Nat.succ_mul] at this
    omega
  rw [hb.cell (p := ⟨b, off + (i * size + j), none⟩) hlt, hcell _ hlen, ← hx, ← hq, List.getElem?_eq_getElem hlen]
theorem evL_len (e : Ev) : (evL e).length = 3 := rfl
def Evs (w : World) (v : Value) (l : List Ev) : Prop := Reads w v 3 l.length (l.flatMap evL) ∧ ∀ e ∈ l, okV e
theorem Evs.next {w w' : World} {v : Value} {l : List Ev} (h : Evs w v l) (hb : Below w.heap.size w w') : Evs w' v l := ⟨h.1.next hb, h.2⟩
theorem Evs.ok {w : World} {v : Value} {l : List Ev} (h : Evs w v l) {i : Nat} {e : Ev} (hi : l[i]? = some e) : okV e := h.2 e (List.mem_of_getElem? hi)
theorem Evs.later {w : World} {A : Option Addr} {n c : Nat} {l : List Ev} (h : Evs w (.slice A n c) l) (h0 : 0 < l.length) : ∃ b off, A = some ⟨b, off, none⟩ ∧ b < w.heap.size ∧
    ∀ (i : Nat) (e : Ev), l[i]? = some e → ∀ w' : World, Below w.heap.size w w' → w'.cell? ⟨b, off + i * 3, none⟩ = some (.string e.1) ∧ w'.cell? ⟨b, off + i * 3 + 1, none⟩ = some (.string e.2.1) ∧ w'.cell? ⟨b, off + i * 3 + 2, none⟩ = some (.float .f64 e.2.2) := by
  obtain ⟨b, off, hA, hlt, hc⟩ := (Reads.each evL_len h.1).2.2.2 h0
  refine ⟨b, off, hA, hlt, fun i e hi w' hb => ?_⟩
  have h := hc i e hi w' hb
  exact ⟨by simpa [evL] using h 0 (by omega), by simpa [evL, Nat.add_assoc] using h 1 (by omega), by simpa [evL, Nat.add_assoc] using h 2 (by omega)⟩

set_option maxHeartbeats 1000000 in
theorem ref_All (va vb : Value) (a b : List Ev) (w : World) (ha : Evs w va a) (hb : Evs w vb b) :
    Calls Try.prog 25 #[va, vb] w fun e w' => e = .returned (.bool (decide (a = b))) ∧ Below w.heap.size w w' := by
  obtain ⟨⟨A, c, rfl, -, -, -, -⟩, -⟩ := id ha
  obtain ⟨⟨B, d, rfl, -, -, -, -⟩, -⟩ := id hb
  obtain ⟨-, ha1, ha2, -⟩ := Reads.each evL_len ha.1
  obtain ⟨-, hb1, hb2, -⟩ := Reads.each evL_len hb.1
  unfold maxLen at ha2 hb2
  by_cases hl : a.length = b.length
  · have hA := fun h0 => ha.later h0
    have hB := fun h0 => hb.later h0
    have oA := ha.2
    have oB := hb.2
    obtain ⟨n, hn⟩ : ∃ n, n = a.length := ⟨_, rfl⟩
    have hnb : b.length = n := by omega
    rw [hnb] at hb1 ⊢
    rw [← hn] at ha1 ⊢
    have HA := Lib.hid hA
    have HB := Lib.hid hB
    have OA := Lib.hid oA
    have OB := Lib.hid oB
    have Hn := Lib.hid hn
    have Hnb := Lib.hid hnb
    clear hA hB oA oB hn hnb hl ha hb
    go_enter Try.func25, Try.ntmps25
    go_wp2_with fail
    go_loopw [5] (fun i wr => ∃ k : Nat, k ≤ n ∧ i = .int .i64 (k : Int) ∧ a.take k = b.take k ∧ Below w.heap.size w wr) (fun i _ => n - (intOf i).toNat)
    case atStart => exact ⟨0, by omega, rfl, by simp, Below.refl _ _⟩
    case round =>
      obtain ⟨k, hk, rfl, hp, hbr⟩ := hrel
      by_cases hlt : k < n
      · obtain ⟨x, hx⟩ : ∃ e, a[k]? = some e := ⟨_, List.getElem?_eq_getElem (by have := Hn.out; omega)⟩
        obtain ⟨y, hy⟩ : ∃ e, b[k]? = some e := ⟨_, List.getElem?_eq_getElem (by have := Hnb.out; omega)⟩
        obtain ⟨ba, oa, rfl, -, hca⟩ := HA.out (by have := Hn.out; omega)
        obtain ⟨bb, ob, rfl, -, hcb⟩ := HB.out (by have := Hnb.out; omega)
        have gx := fun z : Later wr => hca k x hx z.it (below_chain hbr z.ok)
        have gy := fun z : Later wr => hcb k y hy z.it (below_chain hbr z.ok)
        have okx := OA.out x (List.mem_of_getElem? hx)
        have oky := OB.out y (List.mem_of_getElem? hy)
        have hs := fun w => ref_Same x y w okx oky
        have hstep : x = y → a.take (k + 1) = b.take (k + 1) := fun h => by rw [List.take_add_one, List.take_add_one, hp, hx, hy, h]
        have hne : x ≠ y → decide (a = b) = false := fun h => decide_eq_false fun e => h (by rw [e, hy] at hx; exact (Option.some.inj hx).symm)
        have i1 : (k : Int) < n := by omega
        have Hstep := Lib.hid hstep
        have Hne := Lib.hid hne
        obtain ⟨x1, x2, x3⟩ := x
        obtain ⟨y1, y2, y3⟩ := y
        unfold evC at hs
        simp only [] at gx gy hs
        have gx0 := fun z => (gx z).1
        have gx1 := fun z => (gx z).2.1
        have gx2 := fun z => (gx z).2.2
        have gy0 := fun z => (gy z).1
        have gy1 := fun z => (gy z).2.1
        have gy2 := fun z => (gy z).2.2
        clear hstep hne hx hy hca hcb gx gy okx oky hp
        by_cases hxy : (x1, x2, x3) = (y1, y2, y3)
        · rw [decide_eq_true hxy] at hs
          have hp2 := Hstep.out hxy
          have Hp2 := Lib.hid hp2
          clear hp2 hxy
          go_wp2_with fail
          refine wp_region_below (by kernel_rfl) (by kernel_rfl) ?_
          repeat (first | go_big_quiet_skip | (go_big_quiet_want; go_big_quiet_op; go_big_quiet_on) | (go_big_quiet_want; go_big_quiet_op; apply Exists.intro; refine ⟨fun x => ?_, ?_⟩; (first | (go_at_call 22; exact calls_below x (hs _))); go_big_quiet_on))
          refine wpQuiet_nil ?_
          intro _ hx
          obtain ⟨⟨w1, hb1⟩, rfl⟩ := hx
          go_wp2
          go_roundw
          case rel => exact ⟨k + 1, by omega, by go_num, Hp2.out, below_chain hbr hb1⟩
          case measure => simp [intOf]; omega
        · rw [decide_eq_false hxy] at hs
          have hab := Hne.out hxy
          have Hab := Lib.hid hab
          clear hab hxy
          go_wp2_with fail
          refine wp_region_below (by kernel_rfl) (by kernel_rfl) ?_
          repeat (first | go_big_quiet_skip | (go_big_quiet_want; go_big_quiet_op; go_big_quiet_on) | (go_big_quiet_want; go_big_quiet_op; apply Exists.intro; refine ⟨fun x => ?_, ?_⟩; (first | (go_at_call 22; exact calls_below x (hs _))); go_big_quiet_on))
          refine wpQuiet_nil ?_
          intro _ hx
          obtain ⟨⟨w1, hb1⟩, rfl⟩ := hx
          go_wp2
          go_ret
          exact ⟨by rw [Hab.out]; rfl, below_chain hbr hb1⟩
      · have i1 : ¬ (k : Int) < n := by omega
        have hab : decide (a = b) = true := decide_eq_true (by
          rw [List.take_of_length_le (by have := Hn.out; omega), List.take_of_length_le (by have := Hnb.out; omega)] at hp
          exact hp)
        have Hab := Lib.hid hab
        clear hab hp
        go_wp2
        go_ret
        exact ⟨by rw [Hab.out]; rfl, hbr⟩
  · have hab : decide (a = b) = false := decide_eq_false fun h => hl (by rw [h])
    have h' : ¬ (a.length : Int) = b.length := by omega
    have h2 : ((a.length : Int) == b.length) = false := by rw [beq_eq_false_iff_ne]; exact h'
    rw [hab]
    go_enter Try.func25, Try.ntmps25
    go_wp2
    go_ret
    exact ⟨rfl, Below.refl _ _⟩
end Go.Proofs.Ytiojapjidgjaoaa
