/-
  MODEL: the program's model and the document's, side by side. Rows of different types are different blocks.
-/
import Derived.Test.YtmplabhofhllmaaRefM4
import Derived.Test.YtmplabhofhllmaaRefM6
import Derived.Test.YtmplabhofhllmaaMod5
namespace Go.Proofs.Ytmplabhofhllmaa
open Go.RowKit
set_option linter.unusedVariables false

theorem types_all : (31 : TypeId) ≠ 56 ∧ (31 : TypeId) ≠ 65 ∧ (48 : TypeId) ≠ 56 ∧ (48 : TypeId) ≠ 65 ∧ (3 : TypeId) ≠ 56 ∧ (3 : TypeId) ≠ 65 ∧
    (46 : TypeId) ≠ 31 ∧ (46 : TypeId) ≠ 48 ∧ (46 : TypeId) ≠ 3 := ⟨by decide, by decide, by decide, by decide, by decide, by decide, by decide, by decide, by decide⟩
/-- The document's model stays while no row of its types turns. -/
theorem RefW.stay {w w' : World} {base g : Nat} {vL vM : Value} {T : List Tld} {M : List Nat} {sure : Nat} (h : RefW w base g vL vM T M sure)
    (hk : ∀ k t xs, Row w k t xs → t ≠ 56 → t ≠ 65 → w'.heap[k]? = w.heap[k]?) : RefW w' base g vL vM T M sure :=
  ⟨h.1.of_block (hk _ _ _ h.1 types_all.1 types_all.2.1), h.2.1, h.2.2.1.keep fun k h9 => hk _ _ _ (h.2.2.1.row h9).1 types_all.2.2.1 types_all.2.2.2.1,
    h.2.2.2.1.keep fun k h9 => hk _ _ _ (h.2.2.2.1.row h9).1 types_all.2.2.2.2.1 types_all.2.2.2.2.2.1, h.2.2.2.2⟩
theorem ModW.own_type {w : World} {base g : Nat} {v : Value} {L : List BatP} {sure k : Nat} (h : ModW w base g v L sure) (hk : v.ownBlock = some k) : ∃ xs, Row w k 65 xs := by
  rcases h.2.2.1 with ho | ⟨b, rfl, -, hb, -⟩
  · exact ⟨_, own_row ho hk⟩
  · simp [Value.ownBlock] at hk
    subst hk
    exact ⟨_, hb⟩
/-- The program's writes leave the document's model. -/
theorem RefW.by_mod {w w' : World} {base g gr : Nat} {v vL vM : Value} {L : List BatP} {T : List Tld} {M : List Nat} {sure sure' : Nat} {o : Option Nat} (h : RefW w base gr vL vM T M sure) (hm : ModW w base g v L sure') (hk : Keep2 w w' g o) (ho : o = none ∨ o = v.ownBlock) : RefW w' base gr vL vM T M sure :=
  h.stay fun k t xs hr h1 h2 => hk.block k hr.lt (fun h9 => by subst h9; exact h1 (row_types hr hm.1)) (fun h9 => by
    rcases ho with rfl | rfl
    · cases h9
    · obtain ⟨ys, hy⟩ := hm.own_type h9.symm
      exact h2 (row_types hr hy))
/-- The program's model stays while no row of its types turns. -/
theorem ModW.stay {w w' : World} {base g : Nat} {v : Value} {L : List BatP} {sure : Nat} (h : ModW w base g v L sure)
    (hk : ∀ k t xs, Row w k t xs → t ≠ 31 → t ≠ 48 → t ≠ 3 → w'.heap[k]? = w.heap[k]?) : ModW w' base g v L sure := by
  refine ⟨h.1.of_block (hk _ _ _ h.1 (fun h => types_all.1 h.symm) (fun h => types_all.2.2.1 h.symm) (fun h => types_all.2.2.2.2.1 h.symm)), h.2.1, ?_, fun p hp => ⟨?_, (h.2.2.2 p hp).2⟩⟩
  · rcases h.2.2.1 with ho | ⟨b, rfl, h1, h2, h3⟩
    · exact .inl (own_keepR ho fun k h9 => hk _ _ _ (own_row ho h9) (fun h => types_all.2.1 h.symm) (fun h => types_all.2.2.2.1 h.symm) (fun h => types_all.2.2.2.2.2.1 h.symm))
    · exact .inr ⟨b, rfl, h1, h2.of_block (hk _ _ _ h2 (fun h => types_all.2.1 h.symm) (fun h => types_all.2.2.2.1 h.symm) (fun h => types_all.2.2.2.2.2.1 h.symm)), h3⟩
  · have := (h.2.2.2 p hp).1
    exact own_keepR this fun k h9 => hk _ _ _ (own_row this h9) types_all.2.2.2.2.2.2.1 types_all.2.2.2.2.2.2.2.1 types_all.2.2.2.2.2.2.2.2
/-- The document's writes leave the program's model. -/
theorem ModW.by_ref {w w' : World} {base g gr : Nat} {v vL vM : Value} {L : List BatP} {T : List Tld} {M : List Nat} {sure sure' : Nat} (h : ModW w base g v L sure') (hr : RefW w base gr vL vM T M sure)
    (hk : ∀ k, k < w.heap.size → k ≠ gr → some k ≠ vL.ownBlock → some k ≠ vM.ownBlock → w'.heap[k]? = w.heap[k]?) : ModW w' base g v L sure' :=
  h.stay fun k t xs hw h1 h2 h3 => hk k hw.lt (fun h9 => by subst h9; exact h1 (row_types hw hr.1)) (fun h9 => h2 (row_types hw (hr.2.2.1.row h9.symm).1)) (fun h9 => h3 (row_types hw (hr.2.2.2.1.row h9.symm).1))
/-- How many events each batch has. -/
def lenL (L : List BatP) : List Nat := L.map fun p => p.2.2.2.length
theorem sum_lenL (L : List BatP) (k : Nat) : sumN (lenL L) k = (allL (L.take k)).length := by
  induction k with
  | zero => simp [sumN, allL]
  | succ k ih =>
    rcases Nat.lt_or_ge k L.length with h | h
    · have hp : L[k]? = some L[k] := List.getElem?_eq_getElem h
      rw [sumN_succ (m := L[k].2.2.2.length) (by unfold lenL; rw [List.getElem?_map, hp]; rfl), allL_take hp, List.length_append, toldB_len, ih]
    · rw [sumN_over (by unfold lenL; rw [List.length_map]; exact h), ih, List.take_of_length_le h, List.take_of_length_le (by omega)]
theorem allL_pre (L : List BatP) (k : Nat) : (allL L).take (allL (L.take k)).length = allL (L.take k) := by
  have h2 : allL L = allL (L.take k) ++ allL (L.drop k) := by rw [← allL_append, List.take_append_drop]
  rw [h2, List.take_left]
/-- Both cut at the same places. -/
theorem cut_doc (L : List BatP) (sure : Nat) (l : List Tld) (k : Nat) : CutOk L sure l k ↔ DocOk (allL L) (lenL L) sure l k := by
  unfold CutOk DocOk
  rw [sum_lenL, show (lenL L).length = L.length from by unfold lenL; rw [List.length_map]]
  constructor
  · rintro ⟨h1, h2, h3⟩
    refine ⟨h1, h2, by rw [h3], ?_⟩
    rw [← h3]; exact allL_pre L k
  · rintro ⟨h1, h2, h3, h4⟩
    refine ⟨h1, h2, ?_⟩
    rw [← h4, ← h3]; exact (allL_pre L k).symm
theorem streamT_all (L : List BatP) (s : ByteArray) : streamT (allL L) s = streamL L s := rfl
/-- Both refuse the same Appends. -/
theorem app_doc (L : List BatP) (s : ByteArray) (x : Int) (l : List Ev) : appT (allL L) s x l = appE L s x l := by
  unfold appT appE lastL
  rw [streamT_all]
  rw [show ((streamL L s).length : Int) - 1 + 1 = ((streamL L s).length : Int) from by omega]
end Go.Proofs.Ytmplabhofhllmaa
