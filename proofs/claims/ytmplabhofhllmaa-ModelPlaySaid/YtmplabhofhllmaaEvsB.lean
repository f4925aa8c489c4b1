/-
  LISTS OF EVENTS: how they lie in memory.
-/
import Derived.RangeFuncNested
import Derived.RangeFuncBound
import Derived.RangeFuncCalls
import Derived.RangeFuncLeaves
import Derived.Shelf.Abstract
import Derived.Shelf.RegionOpen
import Derived.WalkKit
import Derived.OwnWalkIn
import Derived.TacticsInMore
import Derived.LoopNIn
import Derived.LoopIn
import Derived.RangeFuncBox
import Derived.RangeFuncKeeps
import Derived.Maps.AppendAt
import Derived.Test.YtmplabhofhllmaaEvSame
import Derived.Test.YtmplabhofhllmaaMem
import Derived.Test.YtmplabhofhllmaaAppend
import Derived.Test.YtmplabhofhllmaaOpenList
namespace Go.Proofs.Ytmplabhofhllmaa
open Go.RowKit Go.Shelf
set_option linter.unusedVariables false

theorem Reads.each {α : Type} {f : α → List Value} {size : Nat} (hf : ∀ x, (f x).length = size) {w : World} {A : Option Addr} {n c : Nat} {l : List α} (h : Reads w (.slice A n c) size l.length (l.flatMap f)) :
    n = l.length ∧ n ≤ c ∧ c ≤ maxLen ∧ (0 < l.length → ∃ b off, A = some ⟨b, off, none⟩ ∧ b < w.heap.size ∧
      ∀ (i : Nat) (x : α), l[i]? = some x → ∀ w' : World, Below w.heap.size w w' → ∀ j (hj : j < size), w'.cell? ⟨b, off + (i * size + j), none⟩ = (f x)[j]?) := by
  obtain ⟨A', c', hv, h1, h2, hl, hc⟩ := h
  obtain ⟨rfl, rfl, rfl⟩ := Value.slice.inj hv
  refine ⟨rfl, h1, h2, fun h0 => ?_⟩
  obtain ⟨b, off, hA, hlt, hcell⟩ := hc h0
  refine ⟨b, off, hA, hlt, fun i x hi w' hb j hj => ?_⟩
  obtain ⟨hil, hx⟩ := List.getElem?_eq_some_iff.1 hi
  have hq := flatMap_get f size hf l i j hil hj
  have hlen : i * size + j < (l.flatMap f).length := by
    rw [hl]
    have : (i + 1) * size ≤ l.length * size := Nat.mul_le_mul_right _ hil
    rw [Nat.succ_mul] at this
    omega
  rw [hb.cell (p := ⟨b, off + (i * size + j), none⟩) hlt, hcell _ hlen, ← hx, ← hq, List.getElem?_eq_getElem hlen]
theorem evL_len (e : Ev) : (evL e).length = 3 := rfl
def Evs (w : World) (v : Value) (l : List Ev) : Prop := Reads w v 3 l.length (l.flatMap evL) ∧ ∀ e ∈ l, okV e
theorem Evs.next {w w' : World} {v : Value} {l : List Ev} (h : Evs w v l) (hb : Below w.heap.size w w') : Evs w' v l := ⟨h.1.next hb, h.2⟩
theorem Evs.ok {w : World} {v : Value} {l : List Ev} (h : Evs w v l) {i : Nat} {e : Ev} (hi : l[i]? = some e) : okV e := h.2 e (List.mem_of_getElem? hi)
theorem Evs.later {w : World} {A : Option Addr} {n c : Nat} {l : List Ev} (h : Evs w (.slice A n c) l) (h0 : 0 < l.length) : ∃ b off, A = some ⟨b, off, none⟩ ∧ b < w.heap.size ∧
    ∀ (i : Nat) (e : Ev), l[i]? = some e → ∀ w' : World, Below w.heap.size w w' → w'.cell? ⟨b, off + i * 3, none⟩ = some (.string e.1) ∧ w'.cell? ⟨b, off + i * 3 + 1, none⟩ = some (.string e.2.1) ∧ w'.cell? ⟨b, off + i * 3 + 2, none⟩ = some (.float .f64 e.2.2) := by
  obtain ⟨b, off, hA, hlt, hc⟩ := (Reads.each evL_len h.1).2.2.2 h0
  refine ⟨b, off, hA, hlt, fun i e hi w' hb => ?_⟩
  have h := hc i e hi w' hb
  exact ⟨by simpa [evL] using h 0 (by omega), by simpa [evL, Nat.add_assoc] using h 1 (by omega), by simpa [evL, Nat.add_assoc] using h 2 (by omega)⟩

end Go.Proofs.Ytmplabhofhllmaa
