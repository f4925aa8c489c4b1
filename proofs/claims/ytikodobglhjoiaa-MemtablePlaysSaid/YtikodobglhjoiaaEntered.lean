/-
  The entries' law's own examples hold.
-/
import Derived.Test.YtikodobglhjoiaaEntGet
import Derived.Test.YtikodobglhjoiaaEntRefR
namespace Go.Proofs.Ytikodobglhjoiaa
open Go.RowKit
set_option linter.unusedVariables false

def exL : List Ent := [(1, 0, 12), (1, 1, 30), (1, 1, 50), (3, 0, 70)]
theorem exL_sorted : sortedE exL = true := by decide
theorem exL_ok : ∀ e ∈ exL, okE e := by
  intro e he
  simp only [exL, List.mem_cons, List.not_mem_nil, or_false] at he
  rcases he with rfl | rfl | rfl | rfl <;> simp [okE]
theorem exL_at (w : World) : Ents (w.alloc (.cells (entsC exL).toArray 25)) (.slice (some ⟨w.heap.size, 0, none⟩) 4 4) exL :=
  ⟨Reads.of_row (Row.new w (entsC exL).toArray 25) rfl (Nat.le_refl _) (by unfold maxLen; omega), exL_ok⟩

theorem exL_Last1 (w : World) (v : Value) (h : Ents w v exL) :
    Calls Try.prog 17 #[v, .int .u64 1, .int .i64 1] w fun e w' => e = .returned (.tuple #[.agg #[.int .u64 1, .int .i64 1, .int .i64 50], .bool true]) ∧ Below w.heap.size w w' := by
  have c := entries_Last v exL 1 1 w h exL_sorted (by omega) (by omega)
  have e1 : lastE exL 1 1 = some (1, 1, 50) := by decide
  rw [e1] at c
  exact c
theorem exL_Last2 (w : World) (v : Value) (h : Ents w v exL) :
    Calls Try.prog 17 #[v, .int .u64 1, .int .i64 (-1)] w fun e w' => e = .returned (.tuple #[.agg #[.int .u64 0, .int .i64 0, .int .i64 0], .bool false]) ∧ Below w.heap.size w w' := by
  have c := entries_Last v exL 1 (-1) w h exL_sorted (by omega) (by omega)
  have e1 : lastE exL 1 (-1) = none := by decide
  rw [e1] at c
  exact c
theorem exL_Search (w : World) (v : Value) (h : Ents w v exL) (a : Nat) (b : Int) (k : Nat) (hk : searchE exL a b = k) (ha : a < 100) (hb : 0 ≤ b ∧ b < 100) :
    Calls Try.prog 19 #[v, .int .u64 (a : Nat), .int .i64 b] w fun e w' => e = .returned (.int .i64 (k : Nat)) ∧ Below w.heap.size w w' := by
  have c := entries_Search v exL a b w h exL_sorted (by omega) (by omega)
  rw [hk] at c
  exact c
theorem exL_Range (w : World) (v : Value) (h : Ents w v exL) (a : Nat) (f t : Int) (r : List Ent) (hr : rangeE exL a f t = r) (ha : a < 100) (hf : 0 ≤ f ∧ f < 100) (ht : 0 ≤ t ∧ t < 100) :
    Calls Try.prog 16 #[v, .int .u64 (a : Nat), .int .i64 f, .int .i64 t] w fun e w' => ∃ c A, e = .returned (.slice A r.length c) ∧ Ents w' (.slice A r.length c) r ∧ Below w.heap.size w w' := by
  refine (entries_Range v exL a f t w h exL_sorted (by decide) (by omega) (by omega) (by omega)).mono ?_
  rintro e w' ⟨v', rfl, hown, hb⟩
  rw [hr] at hown
  have hE : Ents w' v' r := ⟨Reads.of_own hown, fun x hx => by rw [← hr] at hx; exact exL_ok x (List.mem_filter.1 hx).1⟩
  obtain ⟨⟨A, c, rfl, -, -, -, -⟩, -⟩ := id hE
  exact ⟨c, A, rfl, hE, hb⟩
theorem ex_Same (w : World) (va vb : Value) (a b : List Ent) (x : Bool) (ha : Ents w va a) (hb : Ents w vb b) (hx : decide (a = b) = x) :
    Calls Try.prog 21 #[va, vb] w fun e w' => e = .returned (.bool x) ∧ Below w.heap.size w w' := by
  rw [← hx]; exact law_SameE va vb a b w ha hb
theorem ex_Sorted (w : World) (v : Value) (a : List Ent) (x : Bool) (ha : Ents w v a) (hx : sortedE a = x) :
    Calls Try.prog 23 #[v] w fun e w' => e = .returned (.bool x) ∧ Below w.heap.size w w' := by
  rw [← hx]; exact entries_Sorted v a w ha
theorem ex_Less (w : World) (a b : Ent) (x : Bool) (ha : okE a) (hb : okE b) (hx : lessE a b = x) :
    Calls Try.prog 30 #[.agg (entC a), .agg (entC b)] w fun e w' => e = .returned (.bool x) ∧ Below w.heap.size w w' := by
  rw [← hx]; exact entries_Less a b w ha hb
theorem ents_two (w : World) (a b : Ent) (ha : okE a) (hb : okE b) : Ents (w.alloc (.cells (entC a ++ entC b) 25)) (.slice (some ⟨w.heap.size, 0, none⟩) 2 2) [a, b] := by
  refine ⟨?_, fun x hx => ?_⟩
  · have := Reads.of_row (size := 3) (n := 2) (cap := 2) (Row.new w (entC a ++ entC b) 25) rfl (Nat.le_refl _) (by unfold maxLen; omega)
    simpa [entC, entsC, entL] using this
  · simp only [List.mem_cons, List.not_mem_nil, or_false] at hx
    rcases hx with rfl | rfl
    · exact ha
    · exact hb
theorem box_ok (w : World) (o : Obj) (p : Addr) (hp : w.heap.size ≤ p.block) (a b c : Value) (w' : World) (hb : Below w.heap.size w w') : Below w.heap.size w (((w'.setCell p a).setCell { p with off := p.off + 1 } b).setCell { p with off := p.off + 2 } c) :=
  ((hb.setCell hp _).setCell (p := { p with off := p.off + 1 }) hp _).setCell (p := { p with off := p.off + 2 }) hp _

set_option maxHeartbeats 2000000 in
theorem law_entered (w : World) :
    Calls Try.prog 14 #[] w fun e w' => e = .returned (.bool true) ∧ Below w.heap.size w w' := by
  have hL := exL_at w
  have hz := below_lit w (.cells (entsC exL).toArray 25)
  go_enter Try.func14, Try.ntmps14
  go_wp2_with fail
  refine (exL_Last1 _ _ hL).mono ?_
  rintro e w1 ⟨rfl, hb1⟩
  go_wp2_with fail
  have hz1 := below_lit w1 (.cells #[.int .u64 1, .int .i64 1, .int .i64 50] 25)
  have hB1 := below_chain hb1 hz1
  have hbox := fun w' hb => ent_box w1 (1, 1, 50) 25 w' hb
  refine (exL_Last2 _ _ (hL.next hB1)).mono ?_
  rintro e w2 ⟨rfl, hb2⟩
  have hB2 := below_chain hB1 hb2
  have hz2 := below_lit w2 (.cells #[.int .u64 0, .int .i64 0, .int .i64 0] 25)
  have hB3 := below_chain hB2 hz2
  have hX3 := below_chain hb2 hz2
  go_wp2_with fail
  have hrow := (Row.new w (entsC exL).toArray 25)
  have cell : ∀ j (h : j < 12) w', Below (w.alloc (.cells (entsC exL).toArray 25)).heap.size (w.alloc (.cells (entsC exL).toArray 25)) w' → w'.cell? ⟨w.heap.size, j, none⟩ = some ((entsC exL)[j]'h) := fun j h w' hb => (hrow.next hb).cell j h
  generalize w2.alloc (.cells #[.int .u64 0, .int .i64 0, .int .i64 0] 25) = wL at hB3 hX3 ⊢
  have hL3 := hL.next hB3
  have hWL := below_chain hz hB3
  have HS := Lib.hid (show ∀ w', Below wL.heap.size wL w' → Below wL.heap.size wL w' ∧ w'.cell? ⟨w1.heap.size, 0, none⟩ = some (.int .u64 1) ∧ w'.cell? ⟨w1.heap.size, 1, none⟩ = some (.int .i64 1) ∧ w'.cell? ⟨w1.heap.size, 2, none⟩ = some (.int .i64 50) ∧
      w'.cell? ⟨w.heap.size, 3, none⟩ = some (.int .u64 1) ∧ w'.cell? ⟨w.heap.size, 4, none⟩ = some (.int .i64 1) ∧ w'.cell? ⟨w.heap.size, 5, none⟩ = some (.int .i64 30) ∧
      w'.cell? ⟨w.heap.size, 6, none⟩ = some (.int .u64 1) ∧ w'.cell? ⟨w.heap.size, 7, none⟩ = some (.int .i64 1) ∧ w'.cell? ⟨w.heap.size, 8, none⟩ = some (.int .i64 50) from fun w' hb => by
    have hx := hbox w' (below_chain hX3 hb)
    have hc := fun j h => cell j h w' (below_chain hB3 hb)
    exact ⟨hb, hx.1, hx.2.1, hx.2.2, hc 3 (by omega), hc 4 (by omega), hc 5 (by omega), hc 6 (by omega), hc 7 (by omega), hc 8 (by omega)⟩)
  clear hL hz hb1 hz1 hB1 hbox hb2 hB2 hz2 hB3 hX3 hrow cell
  have D0 : Below wL.heap.size wL wL.drew := (Below.refl _ _).drew
  simp only [List.append]
  go_region_held3 (fun w' => Below wL.heap.size wL w' ∧ w'.cell? ⟨w1.heap.size, 0, none⟩ = some (.int .u64 1) ∧ w'.cell? ⟨w1.heap.size, 1, none⟩ = some (.int .i64 1) ∧ w'.cell? ⟨w1.heap.size, 2, none⟩ = some (.int .i64 50) ∧
      w'.cell? ⟨w.heap.size, 3, none⟩ = some (.int .u64 1) ∧ w'.cell? ⟨w.heap.size, 4, none⟩ = some (.int .i64 1) ∧ w'.cell? ⟨w.heap.size, 5, none⟩ = some (.int .i64 30) ∧
      w'.cell? ⟨w.heap.size, 6, none⟩ = some (.int .u64 1) ∧ w'.cell? ⟨w.heap.size, 7, none⟩ = some (.int .i64 1) ∧ w'.cell? ⟨w.heap.size, 8, none⟩ = some (.int .i64 50))
    (first | (exact HS.out _ k9b) | (exact HS.out _ k9) | (exact HS.out _ (below_chain k8 (below_lit _ _))) | (exact HS.out _ k8) | (exact HS.out _ k7) | (exact HS.out _ k6) | (exact HS.out _ k5) | (exact HS.out _ k4) | (exact HS.out _ k3) | (exact HS.out _ k2) | (exact HS.out _ k1) | (exact HS.out _ D0) | fail)
    (first
      | (go_at_call 23; refine (ex_Sorted _ _ exL true (hL3.next k9) exL_sorted).mono ?_; rintro e v10 ⟨rfl, hb⟩; have k9b := below_chain k9 hb)
      | (go_at_call 23; refine (ex_Sorted _ _ [(1, 1, 50), (1, 1, 30)] false (ents_two _ (1, 1, 50) (1, 1, 30) (by simp [okE]) (by simp [okE])) (by decide)).mono ?_; rintro e v9 ⟨rfl, hb⟩; have k9 := below_chain (below_chain k8 (below_lit _ _)) hb)
      | (go_at_call 30; refine (ex_Less _ (1, 1, 30) (1, 1, 50) true (by simp [okE]) (by simp [okE]) (by decide)).mono ?_; rintro e v8 ⟨rfl, hb⟩; have k8 := below_chain k6 hb)
      | (go_at_call 16; refine (exL_Range _ _ (hL3.next k5) 3 1 9 [] (by decide) (by omega) (by omega) (by omega)).mono ?_; rintro e v6 ⟨c8, A8, rfl, hE8, hb⟩; have k6 := below_chain k5 hb)
      | (go_at_call 21; refine (ex_Same _ _ _ [(1, 1, 30), (1, 1, 50)] [(1, 1, 30), (1, 1, 50)] true hE6 (Ents.sliced (hL3.next k4) 1 3 4 (by omega) (by decide) (by omega) (by omega)) (by decide)).mono ?_; rintro e v5 ⟨rfl, hb⟩; have k5 := below_chain k4 hb)
      | (go_at_call 16; refine (exL_Range _ _ (hL3.next k3) 1 1 5 [(1, 1, 30), (1, 1, 50)] (by decide) (by omega) (by omega) (by omega)).mono ?_; rintro e v4 ⟨c6, A6, rfl, hE6, hb⟩; have k4 := below_chain k3 hb)
      | (go_at_call 19; refine (exL_Search _ _ (hL3.next k2) 9 9 4 (by decide) (by omega) (by omega)).mono ?_; rintro e v3 ⟨rfl, hb⟩; have k3 := below_chain k2 hb)
      | (go_at_call 19; refine (exL_Search _ _ (hL3.next k1) 2 0 3 (by decide) (by omega) (by omega)).mono ?_; rintro e v2 ⟨rfl, hb⟩; have k2 := below_chain k1 hb)
      | (go_at_call 19; refine (exL_Search _ _ (hL3.next D0) 1 1 1 (by decide) (by omega) (by omega)).mono ?_; rintro e v1 ⟨rfl, hb⟩; have k1 := below_chain D0 hb)
      | fail)
  go_wp2
  go_ret
  exact ⟨rfl, below_chain hWL k9b⟩
end Go.Proofs.Ytikodobglhjoiaa
