/-
  MERGES: the chapter's lists.
-/
import Derived.Test.YtigjjggkcagkmaaMergeLaws
namespace Go.Proofs.Ytigjjggkcagkmaa
open Go.RowKit
set_option linter.unusedVariables false

theorem ex_of (xs : List Int) (n : Nat) (w W : World) (g : Nat) (hg : w.heap.size = g) (ys : Array Value) (hy : ys.toList = intsC xs) (hW : W = w.alloc (.cells ys 3)) (hn : xs.length = n) (hm : n ≤ 1000) (ho : ∀ e ∈ ofE xs, okE e) :
    Calls Try.prog 42 #[.slice (some ⟨g, 0, none⟩) n n] W fun e w' => ∃ A c, e = .returned (.slice A n c) ∧ Ents w' (.slice A n c) (ofE xs) ∧ Below w.heap.size w w' := by
  subst hW; subst hn; subst hg
  have hr := Row.new w ys 3
  rw [hy] at hr
  have h := law_of (.slice (some ⟨w.heap.size, 0, none⟩) xs.length xs.length) xs (w.alloc (.cells ys 3)) (Reads.of_row hr (by simp) (Nat.le_refl _) (by unfold maxLen; omega)) hm
  refine h.mono ?_
  rintro e w' ⟨A, c, rfl, hown, hb⟩
  refine ⟨A, c, rfl, ⟨by have := Reads.of_own hown; rw [ofE_len]; exact this, ho⟩, below_chain (belowLitM w _) hb⟩
theorem ex_Merge (v : Value) (ls : List (List Ent)) (r : List Ent) (n : Nat) (w : World) (h : Lists w v ls) (hn : ls.length ≤ 1000) (ht : totalM ls ≤ 1000000) (hr : mergeL ls = r) (hl : r.length = n) :
    Calls Try.prog 26 #[v] w fun e w' => ∃ A c, e = .returned (.slice A n c) ∧ Ents w' (.slice A n c) r ∧ Below w.heap.size w w' := by
  subst hr; subst hl
  refine (merges_Merge v ls w h hn ht).mono ?_
  rintro e w' ⟨A, c, rfl, hown, ho, hb⟩
  exact ⟨A, c, rfl, ⟨Reads.of_own hown, ho⟩, hb⟩
theorem ex_Same (va vb : Value) (a b : List Ent) (x : Bool) (w : World) (ha : Ents w va a) (hb : Ents w vb b) (h : decide (a = b) = x) :
    Calls Try.prog 27 #[va, vb] w fun e w' => e = .returned (.bool x) ∧ Below w.heap.size w w' := by
  subst h; exact law_SameE va vb a b w ha hb
theorem lists_lit (w W : World) (g : Nat) (hg : w.heap.size = g) (xs : Array Value) (ls : List (List Ent)) (n : Nat) (hW : W = w.alloc (.cells xs 36)) (hx : xs.toList.length = n) (hn : ls.length = n) (hm : n ≤ 1000) (h : ∀ (k : Nat) (x : Value) (l : List Ent), xs.toList[k]? = some x → ls[k]? = some l → Ents w x l) : Lists W (.slice (some ⟨g, 0, none⟩) n n) ls := by
  subst hW; subst hg; subst hn
  refine ⟨xs.toList, hx, ?_, fun k x l h1 h2 => (h k x l h1 h2).next (belowLitM w _)⟩
  rw [hx]
  exact Reads.of_row (Row.new w xs 36) (by omega) (Nat.le_refl _) (by unfold maxLen; omega)
theorem ents_none (w : World) : Ents w (.slice none 0 0) [] := ⟨Reads.nil w 3, by simp⟩
theorem okE_of {xs : List Int} (h : ∀ x ∈ xs, -1000 ≤ x ∧ x ≤ 1000) : ∀ e ∈ ofE xs, okE e := by
  intro e he
  obtain ⟨x, hx, rfl⟩ := List.mem_map.1 he
  have := h x hx
  exact ⟨by show (0 : Nat) < _; omega, ⟨by show _ ≤ x; omega, by show x ≤ _; omega⟩, by show _ ≤ (0 : Int); omega, by show (0 : Int) ≤ _; omega⟩
theorem three_ents {w : World} {a b c : Value} {l m n : List Ent} (h1 : Ents w a l) (h2 : Ents w b m) (h3 : Ents w c n) : ∀ (k : Nat) (x : Value) (y : List Ent), [a, b, c][k]? = some x → [l, m, n][k]? = some y → Ents w x y := by
  intro k x y hx hy
  match k, hx, hy with
  | 0, hx, hy => cases hx; cases hy; exact h1
  | 1, hx, hy => cases hx; cases hy; exact h2
  | 2, hx, hy => cases hx; cases hy; exact h3
theorem two_ents {w : World} {a b : Value} {l m : List Ent} (h1 : Ents w a l) (h2 : Ents w b m) : ∀ (k : Nat) (x : Value) (y : List Ent), [a, b][k]? = some x → [l, m][k]? = some y → Ents w x y := by
  intro k x y hx hy
  match k, hx, hy with
  | 0, hx, hy => cases hx; cases hy; exact h1
  | 1, hx, hy => cases hx; cases hy; exact h2
theorem one_ents {w : World} {a : Value} {l : List Ent} (h1 : Ents w a l) : ∀ (k : Nat) (x : Value) (y : List Ent), [a][k]? = some x → [l][k]? = some y → Ents w x y := by
  intro k x y hx hy
  match k, hx, hy with
  | 0, hx, hy => cases hx; cases hy; exact h1
theorem lists_nil (w : World) : Lists w (.slice none 0 0) [] := ⟨[], rfl, Reads.nil w 1, fun k x l hx => by simp at hx⟩
theorem one_m1 : mergeL [ofE [1, 3, 5], ofE [2, 3], []] = ofE [1, 2, 3, 5] := by decide +kernel
theorem one_m2 : mergeL [[]] = [] := by decide +kernel
theorem one_m3 : mergeL [ofE [2, 1], ofE [2]] = ofE [2, 1] := by decide +kernel
set_option maxHeartbeats 2000000 in
theorem law_one (w : World) :
    Calls Try.prog 25 #[] w fun e w' => e = .returned (.bool true) ∧ Below w.heap.size w w' := by
  go_enter Try.func25, Try.ntmps25
  go_wp2_with fail
  refine (ex_of [1, 3, 5] 3 w _ _ rfl _ rfl rfl rfl (by omega) (okE_of (by simp))).mono ?_
  rintro e w1 ⟨A1, c1, rfl, h1, b1⟩
  go_wp2_with fail
  refine (ex_of [2, 3] 2 w1 _ _ rfl _ rfl rfl rfl (by omega) (okE_of (by simp))).mono ?_
  rintro e w2 ⟨A2, c2, rfl, h2, b2⟩
  have hl1 := fun W hW => lists_lit w2 W _ rfl #[.slice A1 3 c1, .slice A2 2 c2, .slice none 0 0] [ofE [1, 3, 5], ofE [2, 3], []] 3 hW rfl rfl (by omega) (three_ents (h1.next b2) h2 (ents_none w2))
  have bw2 := below_chain b1 b2
  have k2 := belowLitM w2 (.cells #[.slice A1 3 c1, .slice A2 2 c2, .slice none 0 0] 36)
  clear h1 h2 b1 b2
  go_wp2_with fail
  refine (ex_Merge _ _ _ 4 _ (hl1 _ rfl) (by simp) (by decide +kernel) one_m1 rfl).mono ?_
  rintro e w3 ⟨A3, c3, rfl, h3, b3⟩
  have bw3 := below_chain bw2 (below_chain k2 b3)
  clear hl1 k2 b3 bw2
  go_wp2_with fail
  refine (ex_of [1, 2, 3, 5] 4 w3 _ _ rfl _ rfl rfl rfl (by omega) (okE_of (by simp))).mono ?_
  rintro e w4 ⟨A4, c4, rfl, h4, b4⟩
  go_wp2_with fail
  refine (ex_Same _ _ _ _ true w4 (h3.next b4) h4 (by simp)).mono ?_
  rintro e w5 ⟨rfl, b5⟩
  have bw5 := below_chain bw3 (below_chain b4 b5)
  clear h3 h4 b4 b5 bw3
  go_wp2_with fail
  refine (ex_Merge _ [] [] 0 w5 (lists_nil w5) (by simp) (by decide +kernel) rfl rfl).mono ?_
  rintro e w6 ⟨A6, c6, rfl, -, b6⟩
  have bw6 := below_chain bw5 b6
  clear bw5 b6
  have hl6 := fun W hW => lists_lit w6 W _ rfl #[.slice none 0 0] [[]] 1 hW rfl rfl (by omega) (one_ents (ents_none w6))
  have k6 := belowLitM w6 (.cells #[.slice none 0 0] 36)
  go_wp2_with fail
  refine (ex_Merge _ _ _ 0 _ (hl6 _ rfl) (by simp) (by decide +kernel) one_m2 rfl).mono ?_
  rintro e w7 ⟨A7, c7, rfl, -, b7⟩
  have bw7 := below_chain bw6 (below_chain k6 b7)
  clear hl6 k6 b7 bw6
  go_wp2_with fail
  refine (ex_of [2, 1] 2 w7 _ _ rfl _ rfl rfl rfl (by omega) (okE_of (by simp))).mono ?_
  rintro e w8 ⟨A8, c8, rfl, h8, b8⟩
  go_wp2_with fail
  refine (ex_of [2] 1 w8 _ _ rfl _ rfl rfl rfl (by omega) (okE_of (by simp))).mono ?_
  rintro e w9 ⟨A9, c9, rfl, h9, b9⟩
  have hl9 := fun W hW => lists_lit w9 W _ rfl #[.slice A8 2 c8, .slice A9 1 c9] [ofE [2, 1], ofE [2]] 2 hW rfl rfl (by omega) (two_ents (h8.next b9) h9)
  have bw9 := below_chain bw7 (below_chain b8 b9)
  have k9 := belowLitM w9 (.cells #[.slice A8 2 c8, .slice A9 1 c9] 36)
  clear h8 h9 b8 b9 bw7
  go_wp2_with fail
  refine (ex_Merge _ _ _ 2 _ (hl9 _ rfl) (by simp) (by decide +kernel) one_m3 rfl).mono ?_
  rintro e w10 ⟨A10, c10, rfl, h10, b10⟩
  have bw10 := below_chain bw9 (below_chain k9 b10)
  clear hl9 k9 b10 bw9
  go_wp2_with fail
  refine (ex_of [2, 1] 2 w10 _ _ rfl _ rfl rfl rfl (by omega) (okE_of (by simp))).mono ?_
  rintro e w11 ⟨A11, c11, rfl, h11, b11⟩
  go_wp2_with fail
  refine (ex_Same _ _ _ _ true w11 (h10.next b11) h11 (by simp)).mono ?_
  rintro e w12 ⟨rfl, b12⟩
  have bw12 := below_chain bw10 (below_chain b11 b12)
  go_wp2
  go_ret
  exact ⟨rfl, bw12⟩
end Go.Proofs.Ytigjjggkcagkmaa
