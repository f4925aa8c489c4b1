/-
  A table of entries: those that were added, in order.
-/
import Derived.Test.YtikodobglhjoiaaKept
namespace Go.Proofs.Ytikodobglhjoiaa
open Go.RowKit
set_option linter.unusedVariables false

set_option maxHeartbeats 1000000 in
theorem law_table (v : Value) (l : List Ent) (w : World) (hl : Ents w v l) (hn : l.length ≤ 1000) :
    Calls Try.prog 26 #[v] w fun e w' => ∃ g, e = .returned (.pointer (some ⟨g, 0, none⟩)) ∧ (∃ v', TabV w' w.heap.size g v' (sortE l)) ∧ w.heap.size ≤ g ∧ Below w.heap.size w w' := by
  obtain ⟨⟨A, c, rfl, -, -, -, -⟩, -⟩ := id hl
  obtain ⟨-, hc1, hc2, -⟩ := hl.cells
  unfold maxLen at hc2
  have hok := fun (i : Nat) (e : Ent) (hi : l[i]? = some e) => hl.ok hi
  have hcell := fun h0 => hl.later h0
  obtain ⟨n, hN⟩ : ∃ n, n = l.length := ⟨_, rfl⟩
  rw [← hN] at hc1 hn
  rw [← hN] at hl ⊢
  have Hn := Lib.hid hN
  have Hok := Lib.hid hok
  have Hcell := Lib.hid hcell
  clear hN hok hcell hl
  go_enter Try.func26, Try.ntmps26
  go_wp2_with fail
  refine (tab_New _).mono ?_
  rintro e w1 ⟨rfl, hT, hb1⟩
  have hT0 : TabV w1 w.heap.size w.heap.size (.slice none 0 0) [] := hT
  obtain ⟨g, hg⟩ : ∃ g, g = w.heap.size := ⟨_, rfl⟩
  have hT1 : TabV w1 w.heap.size g (.slice none 0 0) [] := by rw [hg]; exact hT0
  rw [← hg]
  have Hg := Lib.hid hg
  clear hg hT hT0
  go_wp2_with fail
  go_loopw [4] (fun i wr => ∃ k : Nat, k ≤ n ∧ i = .int .i64 (k : Int) ∧ (∃ v', TabV wr w.heap.size g v' (sortE (l.take k))) ∧ Below w.heap.size w wr) (fun i _ => n - (intOf i).toNat)
  case atStart => exact ⟨0, by omega, rfl, ⟨_, hT1⟩, hb1⟩
  case round =>
    obtain ⟨k, hk, rfl, ⟨v', hT⟩, hbr⟩ := hrel
    have HT := Lib.hid hT
    clear hT
    by_cases hlt : k < n
    · obtain ⟨e, he⟩ : ∃ e, l[k]? = some e := ⟨_, List.getElem?_eq_getElem (by have := Hn.out; omega)⟩
      have oe := Hok.out k e he
      have hst := sortE_take_succ he
      obtain ⟨b, off, rfl, -, hc⟩ := Hcell.out (by have := Hn.out; omega)
      obtain ⟨c0, c1, c2⟩ := hc k e he wr hbr
      have hlen : (sortE (l.take k)).length ≤ 1000000 := by
        have := sortE_length (l.take k)
        simp at this; omega
      have Hst := Lib.hid hst
      have i1 : (k : Int) < n := by omega
      clear he hc hst
      go_wp2_with fail
      refine (tab_Add HT.out e oe hlen hbr.size).mono ?_
      rintro x w2 ⟨rfl, v2, hT2, hg2, -⟩
      go_wp2
      go_roundw
      case rel => exact ⟨k + 1, by omega, by go_num, ⟨v2, by rw [Hst.out]; exact hT2⟩, hbr.grown hg2 hbr.size (fun k hk => by cases hk; rw [Hg.out]; exact Nat.le_refl _)⟩
      case measure => simp [intOf]; omega
    · have hT := HT.out
      rw [List.take_of_length_le (by have := Hn.out; omega)] at hT
      have i1 : ¬ (k : Int) < n := by omega
      go_wp2
      go_ret
      exact ⟨g, rfl, ⟨v', hT⟩, by rw [Hg.out]; exact Nat.le_refl _, hbr⟩
end Go.Proofs.Ytikodobglhjoiaa
