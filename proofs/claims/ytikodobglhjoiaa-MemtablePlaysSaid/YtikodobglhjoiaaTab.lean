/-
  A TABLE IN MEMORY: what it is here, and what its methods do that write nothing.
-/
import Derived.Test.YtikodobglhjoiaaEntSort
import Derived.Test.YtikodobglhjoiaaEntRefR
namespace Go.Proofs.Ytikodobglhjoiaa
open Go.RowKit
set_option linter.unusedVariables false

/-- At block g a table lies, its entries are l, in a row of its own. -/
def TabV (w : World) (base g : Nat) (v : Value) (l : List Ent) : Prop := Row w g 60 [.bool true, v] ∧ w.ownsRow base 25 3 v l.length (entsC l) ∧ (∀ e ∈ l, okE e) ∧ sortedE l = true
/-- A table that is none. -/
def NoTab (w : World) (v : Value) : Prop := v = .pointer none ∨ ∃ g x, v = .pointer (some ⟨g, 0, none⟩) ∧ Row w g 60 [.bool false, x]
theorem NoTab.next {w w' : World} {v : Value} (h : NoTab w v) (hb : Below w.heap.size w w') : NoTab w' v := by
  rcases h with h | ⟨g, x, h, hr⟩
  · exact .inl h
  · exact .inr ⟨g, x, h, hr.next hb⟩
theorem TabV.next {w w' : World} {base g : Nat} {v : Value} {l : List Ent} (h : TabV w base g v l) (hb : Below w.heap.size w w') : TabV w' base g v l := ⟨h.1.next hb, own_next h.2.1 hb, h.2.2⟩
theorem TabV.ents {w : World} {base g : Nat} {v : Value} {l : List Ent} (h : TabV w base g v l) : Ents w v l := ⟨Reads.of_own h.2.1, h.2.2.1⟩
theorem TabV.cells {w : World} {base g : Nat} {v : Value} {l : List Ent} (h : TabV w base g v l) : ∀ w', Below w.heap.size w w' → w'.cell? ⟨g, 0, none⟩ = some (.bool true) ∧ w'.cell? ⟨g, 1, none⟩ = some v := fun w' hb =>
  ⟨(h.1.next hb).cell 0 (by simp), (h.1.next hb).cell 1 (by simp)⟩

theorem Below.to_grown {w w' : World} (h : Below w.heap.size w w') (r : Option Nat) : w.grownBy w' r := ⟨h.os, h.tape, h.output, h.size, fun k hk _ => h.block k hk⟩
theorem grown_set (w : World) (p : Addr) (v : Value) : w.grownBy (w.setCell p v) (some p.block) :=
  ⟨rfl, rfl, rfl, by simp, fun k hk hne => Below.heap_setCell w p v k (fun e => hne (by rw [e]))⟩
theorem grown_chain {a b c : World} {r : Option Nat} (h1 : Below a.heap.size a b) (h2 : b.grownBy c r) : a.grownBy c r :=
  ⟨h2.os.trans h1.os, h2.tape.trans h1.tape, h2.output.trans h1.output, Nat.le_trans h1.size h2.size, fun k hk hne => (h2.block k (Nat.lt_of_lt_of_le hk h1.size) hne).trans (h1.block k hk)⟩
theorem tab_none_no {w : World} {base g : Nat} {v : Value} {l : List Ent} (h : TabV w base g v l) :
    Calls Try.prog 54 #[.pointer (some ⟨g, 0, none⟩)] w fun e w' => e = .returned (.bool false) ∧ w = w' := by
  obtain ⟨c0, c1⟩ := h.cells w (Below.refl _ _)
  go_enter Try.func54, Try.ntmps54
  go_wp2
  go_ret
  exact ⟨rfl, rfl⟩
theorem tab_none_yes {w : World} {v : Value} (h : NoTab w v) :
    Calls Try.prog 54 #[v] w fun e w' => e = .returned (.bool true) ∧ w = w' := by
  rcases h with rfl | ⟨g, x, rfl, hr⟩
  · go_enter Try.func54, Try.ntmps54
    go_wp2
    go_ret
    exact ⟨rfl, rfl⟩
  · have c0 := hr.cell 0 (by simp)
    simp only [List.getElem_cons_zero] at c0
    go_enter Try.func54, Try.ntmps54
    go_wp2
    go_ret
    exact ⟨rfl, rfl⟩
theorem tab_New (w : World) :
    Calls Try.prog 34 #[] w fun e w' => e = .returned (.pointer (some ⟨w.heap.size, 0, none⟩)) ∧ TabV w' w.heap.size w.heap.size (.slice none 0 0) [] ∧ Below w.heap.size w w' := by
  go_enter Try.func34, Try.ntmps34
  go_wp2
  go_ret
  refine ⟨rfl, ⟨Row.new w #[.bool true, .slice none 0 0] _, World.ownsRow_nil _ _ _ _, by simp, rfl⟩, below_lit _ _⟩
theorem tab_Len {w : World} {base g : Nat} {v : Value} {l : List Ent} (h : TabV w base g v l) :
    Calls Try.prog 41 #[.pointer (some ⟨g, 0, none⟩)] w fun e w' => e = .returned (.int .i64 (l.length : Nat)) ∧ w = w' := by
  obtain ⟨c0, c1⟩ := h.cells w (Below.refl _ _)
  obtain ⟨⟨A, c, rfl, -, -, -, -⟩, -⟩ := h.ents
  go_enter Try.func41, Try.ntmps41
  go_wp2_with fail
  refine (tab_none_no h).mono ?_
  rintro e w' ⟨rfl, rfl⟩
  go_wp2
  go_ret
  exact ⟨rfl, rfl⟩
theorem tab_Len_no {w : World} {v : Value} (h : NoTab w v) :
    Calls Try.prog 41 #[v] w fun e w' => e = .returned (.int .i64 0) ∧ w = w' := by
  go_enter Try.func41, Try.ntmps41
  go_wp2_with fail
  refine (tab_none_yes h).mono ?_
  rintro e w' ⟨rfl, rfl⟩
  go_wp2
  go_ret
  exact ⟨rfl, rfl⟩
theorem tab_Range {w : World} {base g : Nat} {v : Value} {l : List Ent} (h : TabV w base g v l) (hn : l.length ≤ 1000000000) (x : Nat) (f t : Int) (hh : x < 18446744073709551616)
    (hf : -9223372036854775808 ≤ f ∧ f ≤ 9223372036854775807) (ht : -9223372036854775808 ≤ t ∧ t ≤ 9223372036854775807) :
    Calls Try.prog 35 #[.pointer (some ⟨g, 0, none⟩), .int .u64 x, .int .i64 f, .int .i64 t] w fun e w' => ∃ v', e = .returned v' ∧ w'.ownsRow w.heap.size 25 3 v' (rangeE l x f t).length (entsC (rangeE l x f t)) ∧ Below w.heap.size w w' := by
  obtain ⟨c0, c1⟩ := h.cells w (Below.refl _ _)
  have he := h.ents
  go_enter Try.func35, Try.ntmps35
  go_wp2_with fail
  refine (tab_none_no h).mono ?_
  rintro e w' ⟨rfl, rfl⟩
  go_wp2_with fail
  refine (entries_Range _ l x f t _ he h.2.2.2 hn hh hf ht).mono ?_
  rintro e w2 ⟨v', rfl, hown, hb⟩
  go_wp2
  go_ret
  exact ⟨_, rfl, hown, hb⟩
theorem tab_Range_no {w : World} {v : Value} (h : NoTab w v) (a b c : Value) :
    Calls Try.prog 35 #[v, a, b, c] w fun e w' => e = .returned (.slice none 0 0) ∧ w = w' := by
  go_enter Try.func35, Try.ntmps35
  go_wp2_with fail
  refine (tab_none_yes h).mono ?_
  rintro e w' ⟨rfl, rfl⟩
  go_wp2
  go_ret
  exact ⟨rfl, rfl⟩
theorem tab_Dump {w : World} {base g : Nat} {v : Value} {l : List Ent} (h : TabV w base g v l) (hn : l.length ≤ 1000000000) :
    Calls Try.prog 27 #[.pointer (some ⟨g, 0, none⟩)] w fun e w' => ∃ v', e = .returned v' ∧ w'.ownsRow w.heap.size 25 3 v' l.length (entsC l) ∧ Below w.heap.size w w' := by
  obtain ⟨c0, c1⟩ := h.cells w (Below.refl _ _)
  have he := h.ents
  go_enter Try.func27, Try.ntmps27
  go_wp2_with fail
  refine (tab_none_no h).mono ?_
  rintro e w' ⟨rfl, rfl⟩
  go_wp2_with fail
  refine (slices_Clone _ l _ he hn).mono ?_
  rintro e w2 ⟨v', rfl, hown, hb⟩
  go_wp2
  go_ret
  exact ⟨_, rfl, hown, hb⟩
theorem tab_Dump_no {w : World} {v : Value} (h : NoTab w v) :
    Calls Try.prog 27 #[v] w fun e w' => e = .returned (.slice none 0 0) ∧ w = w' := by
  go_enter Try.func27, Try.ntmps27
  go_wp2_with fail
  refine (tab_none_yes h).mono ?_
  rintro e w' ⟨rfl, rfl⟩
  go_wp2
  go_ret
  exact ⟨rfl, rfl⟩
theorem tab_Clear {w : World} {base g : Nat} {v : Value} {l : List Ent} (h : TabV w base g v l) :
    Calls Try.prog 38 #[.pointer (some ⟨g, 0, none⟩)] w fun e w' => e = .returned (.tuple #[]) ∧ TabV w' base g (.slice none 0 0) [] ∧ w.grownBy w' (some g) := by
  obtain ⟨c0, c1⟩ := h.cells w (Below.refl _ _)
  have f1 := h.1.frozen 1 (by simp)
  go_enter Try.func38, Try.ntmps38
  go_wp2_with fail
  refine (tab_none_no h).mono ?_
  rintro e w' ⟨rfl, rfl⟩
  go_wp2
  go_end0
  exact ⟨rfl, ⟨h.1.set 1 _, World.ownsRow_nil _ _ _ _, by simp, rfl⟩, grown_set w ⟨g, 1, none⟩ _⟩
theorem tab_Clear_no {w : World} {v : Value} (h : NoTab w v) :
    Calls Try.prog 38 #[v] w fun e w' => e = .returned (.tuple #[]) ∧ w = w' := by
  go_enter Try.func38, Try.ntmps38
  go_wp2_with fail
  refine (tab_none_yes h).mono ?_
  rintro e w' ⟨rfl, rfl⟩
  go_wp2
  go_end0
  exact ⟨rfl, rfl⟩
theorem tab_Last {w : World} {base g : Nat} {v : Value} {l : List Ent} (h : TabV w base g v l) (x : Nat) (t : Int) (hh : x < 18446744073709551616) (ht : -9223372036854775808 ≤ t ∧ t ≤ 9223372036854775807) :
    Calls Try.prog 37 #[.pointer (some ⟨g, 0, none⟩), .int .u64 x, .int .i64 t] w fun e w' => e = .returned (.tuple #[.agg (entC (entO (lastE l x t))), .bool (lastE l x t).isSome]) ∧ Below w.heap.size w w' := by
  have hz := below_lit w (.cells #[.int .u64 0, .int .i64 0, .int .i64 0] 25)
  have h1 := h.next hz
  obtain ⟨c0, c1⟩ := h1.cells _ (Below.refl _ _)
  have he := h1.ents
  have cL := fun w hw => entries_Last v l x t w hw h.2.2.2 hh ht
  generalize entO (lastE l x t) = z at cL ⊢
  generalize (lastE l x t).isSome = zb at cL ⊢
  obtain ⟨z1, z2, z3⟩ := z
  unfold entC at cL ⊢
  have hrow : Row (w.alloc (.cells #[.int .u64 0, .int .i64 0, .int .i64 0] 25)) w.heap.size 25 [.int .u64 0, .int .i64 0, .int .i64 0] := Row.new w #[.int .u64 0, .int .i64 0, .int .i64 0] 25
  go_enter Try.func37, Try.ntmps37
  go_wp2_with fail
  refine (tab_none_no h1).mono ?_
  rintro e w' ⟨rfl, rfl⟩
  go_wp2_with fail
  refine (cL _ he).mono ?_
  rintro e w2 ⟨rfl, hb2⟩
  have hrow2 := hrow.next hb2
  have r0 := hrow2.cell 0 (by simp)
  have r1 := hrow2.cell 1 (by simp)
  have r2 := hrow2.cell 2 (by simp)
  have f0 := hrow2.frozen 0 (by simp)
  have f1 := hrow2.frozen 1 (by simp)
  have f2 := hrow2.frozen 2 (by simp)
  simp only [List.getElem_cons_zero, List.getElem_cons_succ] at r0 r1 r2
  have hbw := below_chain hz hb2
  clear hrow2
  go_wp2
  refine bodyPost_ret (v := .tuple #[.agg #[.int .u64 z1, .int .i64 z2, .int .i64 z3], .bool zb]) (by simp [results, Try.results37, go_sem, r0, r1, r2]) rfl ⟨rfl, ((hbw.setCell (Nat.le_refl _) _).setCell (Nat.le_refl _) _).setCell (Nat.le_refl _) _⟩
theorem tab_Last_no {w : World} {v : Value} (h : NoTab w v) (a b : Value) :
    Calls Try.prog 37 #[v, a, b] w fun e w' => e = .returned (.tuple #[.agg #[.int .u64 0, .int .i64 0, .int .i64 0], .bool false]) ∧ Below w.heap.size w w' := by
  have hz := below_lit w (.cells #[.int .u64 0, .int .i64 0, .int .i64 0] 25)
  have h1 := h.next hz
  go_enter Try.func37, Try.ntmps37
  go_wp2_with fail
  refine (tab_none_yes h1).mono ?_
  rintro e w' ⟨rfl, rfl⟩
  go_wp2
  refine bodyPost_ret (v := .tuple #[.agg #[.int .u64 0, .int .i64 0, .int .i64 0], .bool false]) (by simp [results, Try.results37, go_sem]) rfl ⟨rfl, hz⟩
theorem tab_Add_no {w : World} {v : Value} (h : NoTab w v) (e : Ent) :
    Calls Try.prog 39 #[v, .agg (entC e)] w fun e w' => e = .returned (.bool false) ∧ Below w.heap.size w w' := by
  have hz := below_lit w (.cells (entC e) 25)
  have h1 := h.next hz
  go_enter Try.func39, Try.ntmps39
  go_wp2_with fail
  refine (tab_none_yes h1).mono ?_
  rintro e w' ⟨rfl, rfl⟩
  go_wp2
  go_ret
  exact ⟨rfl, hz⟩
end Go.Proofs.Ytikodobglhjoiaa
