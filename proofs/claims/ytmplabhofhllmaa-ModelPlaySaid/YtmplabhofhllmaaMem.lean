/-
  WORDS FOR MEMORY: a block whose first cells are known and may be written.
-/
import Derived.Test.YtmplabhofhllmaaPlain
import Derived.Laws.Rows
import Derived.Deep.Draws
namespace Go.Proofs.Ytmplabhofhllmaa
open Go.RowKit
set_option linter.unusedVariables false

/-- Block g holds cells of type e; its first ones are xs, and those may be written. -/
def Row (w : World) (g : Nat) (e : TypeId) (xs : List Value) : Prop :=
  ∃ C fr, w.heap[g]? = some (.cells C e fr) ∧ C.toList.take xs.length = xs ∧ ∀ j, j < xs.length → (decide (fr.1 ≤ j) && decide (j < fr.2)) = false

section
variable {w w' : World} {g : Nat} {e : TypeId} {xs : List Value}
theorem Row.lt (h : Row w g e xs) : g < w.heap.size := by
  obtain ⟨C, fr, hg, _⟩ := h
  rcases Nat.lt_or_ge g w.heap.size with hlt | hge
  · exact hlt
  · rw [Array.getElem?_eq_none hge] at hg; cases hg
theorem Row.cell (h : Row w g e xs) (j : Nat) (hj : j < xs.length) : w.cell? ⟨g, j, none⟩ = some xs[j] := by
  obtain ⟨C, fr, hg, hx, _⟩ := h
  have h1 : (C.toList.take xs.length)[j]? = xs[j]? := by rw [hx]
  rw [List.getElem?_take_of_lt hj, List.getElem?_eq_getElem hj] at h1
  unfold World.cell?
  rw [hg]
  simpa using h1
theorem Row.frozen (h : Row w g e xs) (j : Nat) (hj : j < xs.length) : w.frozen? ⟨g, j, none⟩ = false := by
  obtain ⟨C, ⟨lo, hi⟩, hg, _, hf⟩ := h
  unfold World.frozen?
  rw [hg]
  exact hf j hj
theorem Row.of_block (hb : w'.heap[g]? = w.heap[g]?) (h : Row w g e xs) : Row w' g e xs := by
  obtain ⟨C, fr, hg, hx⟩ := h
  exact ⟨C, fr, hb.trans hg, hx⟩
theorem Row.drew (h : Row w g e xs) : Row w.drew g e xs := h
theorem Row.drewN (h : Row w g e xs) (n : Nat) : Row (w.drewN n) g e xs := h
theorem Row.alloc (h : Row w g e xs) (o : Obj) : Row (w.alloc o) g e xs := h.of_block (Below.heap_alloc w o g h.lt)
theorem Row.far (h : Row w g e xs) {p : Addr} (hp : g ≠ p.block) (u : Value) : Row (w.setCell p u) g e xs := h.of_block (Below.heap_setCell w p u g hp)
theorem Row.below {B : Nat} (h : Row w g e xs) (hb : Below B w w') (hg : g < B) : Row w' g e xs := h.of_block (hb.block g hg)
theorem Row.next (h : Row w g e xs) (hb : Below w.heap.size w w') : Row w' g e xs := h.of_block (hb.block g h.lt)
theorem Row.grown {row : Option Nat} (h : Row w g e xs) (hb : w.grownBy w' row) (hg : some g ≠ row) : Row w' g e xs := h.of_block (hb.block g h.lt hg)
theorem Row.set (h : Row w g e xs) (j : Nat) (u : Value) : Row (w.setCell ⟨g, j, none⟩ u) g e (xs.set j u) := by
  obtain ⟨C, fr, hg, hx, hf⟩ := h
  refine ⟨C.setIfInBounds j u, fr, ?_, ?_, ?_⟩
  · simp [World.setCell, Array.getElem?_modify, hg]
  · rw [Array.toList_setIfInBounds, List.length_set]
    conv => rhs; rw [← hx]
    rw [List.take_set]
  · intro i hi; exact hf i (by simpa using hi)
theorem Row.of_own {base n cap : Nat} {size : Nat} (h : w.ownsRow base e size (.slice (some ⟨g, 0, none⟩) n cap) n xs) : Row w g e xs := by
  rcases h.2 with ⟨h', _⟩ | ⟨g', cap', cur, h', _, hg, _, _, _, htake⟩
  · simp at h'
  · simp only [Value.slice.injEq, Option.some.injEq, Addr.mk.injEq, and_true, true_and] at h'
    obtain ⟨rfl, rfl⟩ := h'
    refine ⟨cur, (0, 0), hg, ?_, by intro j _; simp⟩
    rw [h.1]; exact htake
theorem Row.less {ys zs : List Value} (h : Row w g e (ys ++ zs)) : Row w g e ys := by
  obtain ⟨C, fr, hg, hx, hf⟩ := h
  refine ⟨C, fr, hg, ?_, fun j hj => hf j (by simp; omega)⟩
  have := congrArg (List.take ys.length) hx
  rw [List.take_take, Nat.min_eq_left (by simp)] at this
  simpa using this
theorem Row.new (w : World) (C : Array Value) (e : TypeId) : Row (w.alloc (.cells C e)) w.heap.size e C.toList :=
  ⟨C, (0, 0), heap_alloc_new w _, List.take_of_length_le (by simp), by intro j _; simp⟩
end

/-- 'string(b)', the cells known. -/
theorem Row.conv {P : Program} {w : World} {g n cap : Nat} {e src dst : TypeId} {l : List UInt8} (h : Row w g e (cellsB l)) (hn : l.length = n)
    (hs : P.underlying src = some (.slice e)) (he : P.underlying e = some (.int .u8)) (hd : P.underlying dst = some .string) :
    (convert src dst (.slice (some ⟨g, 0, none⟩) n cap)).run P w = .ok (.string (bs l)) w := by
  subst hn
  exact run_convert_bytes_back w src dst e ⟨g, 0, none⟩ cap l hs he hd (fun j hj => by
    have := h.cell j (by simpa using hj)
    have e1 : (Addr.mk g 0 none).add j = ⟨g, j, none⟩ := by
      unfold Addr.add
      by_cases hz : j = 0
      · subst hz; rfl
      · simp [hz]
    rw [e1, this]
    simp [cellsB])
theorem cellsB_set (l : List UInt8) (j : Nat) (x : Int) (h0 : 0 ≤ x) (h1 : x < 256) : (cellsB l).set j (.int .u8 x) = cellsB (l.set j (UInt8.ofNat x.toNat)) := by
  unfold cellsB
  rw [List.map_set]
  congr 1
  have : (UInt8.ofNat x.toNat).toNat = x.toNat := by simp; omega
  rw [this]; congr 1; omega
theorem cellsB_getElem (l : List UInt8) (j : Nat) (h : j < (cellsB l).length) : (cellsB l)[j] = .int .u8 ((l[j]'(by simpa using h)).toNat : Int) := by simp [cellsB]

theorem grownCap_max (w : World) (need old : Nat) (e : TypeId) : need ≤ grownCap w need old e := grownCap_ge w need old e
/-- '[]byte(s)': a row of the call's own, of some capacity. -/
theorem conv_bytes {P : Program} (w : World) (src dst e : TypeId) (s : ByteArray) (hs : P.underlying src = some .string) (hd : P.underlying dst = some (.slice e)) (he : P.underlying e = some (.int .u8)) :
    ∃ w' cap, (convert src dst (.string s)).run P w = .ok (.slice (some ⟨w.heap.size, 0, none⟩) s.size cap) w' ∧ Row w' w.heap.size e (cellsB (lb s)) ∧ Below w.heap.size w w' ∧ s.size ≤ cap := by
  refine ⟨_, _, run_bytes_of_string w src dst e s hs hd he, ?_, ((Below.refl _ _).drew).alloc (Nat.le_refl _) _, grownCap_ge _ _ _ _⟩
  refine ⟨_, _, heap_alloc_new w.drew _, ?_, ?_⟩
  · unfold bytesRow
    simp only [Array.toList_append, Array.toList_map]
    rw [List.take_append_of_le_length (by simp [cellsB, lb]), List.take_of_length_le (by simp [cellsB, lb])]
    rfl
  · intro j hj
    rw [length_cellsB, length_lb] at hj
    have hz : s.size ≤ (bytesRow s (grownCap w s.size 0 e)).size := by
      unfold bytesRow; rw [Array.size_append, Array.size_map]; exact Nat.le_add_right _ _
    rw [decide_eq_false (by show ¬ (bytesRow s (grownCap w s.size 0 e)).size ≤ j; omega)]
    rfl
theorem own_next {w w' : World} {base size n : Nat} {e : TypeId} {v : Value} {xs : List Value} (h : w.ownsRow base e size v n xs) (hb : Below w.heap.size w w') : w'.ownsRow base e size v n xs := by
  refine ⟨h.1, ?_⟩
  rcases h.2 with hn | ⟨g, cap, cur, rfl, hbs, hgg, rest⟩
  · exact .inl hn
  · refine .inr ⟨g, cap, cur, rfl, hbs, ?_, rest⟩
    rw [hb.block g (Array.getElem?_eq_some_iff.1 hgg).1]
    exact hgg
theorem own_block_ge {w : World} {base size n : Nat} {e : TypeId} {v : Value} {xs : List Value} (h : w.ownsRow base e size v n xs) : ∀ k, v.ownBlock = some k → base ≤ k := by
  intro k hk
  rcases h.2 with ⟨rfl, _⟩ | ⟨g, cap, cur, rfl, hbs, _⟩
  · simp [Value.ownBlock] at hk
  · simp [Value.ownBlock] at hk; omega
/-- A slice value that reads as the cells xs (n elements of 'size' cells). -/
def Reads (w : World) (v : Value) (size n : Nat) (xs : List Value) : Prop :=
  ∃ A c, v = .slice A n c ∧ n ≤ c ∧ c ≤ maxLen ∧ xs.length = n * size ∧ (0 < n → ∃ b off, A = some ⟨b, off, none⟩ ∧ b < w.heap.size ∧ ∀ j (h : j < xs.length), w.cell? ⟨b, off + j, none⟩ = some xs[j])
theorem Reads.next {w w' : World} {v : Value} {size n : Nat} {xs : List Value} (h : Reads w v size n xs) (hb : Below w.heap.size w w') : Reads w' v size n xs := by
  obtain ⟨A, c, hv, h1, h2, hl, hc⟩ := h
  refine ⟨A, c, hv, h1, h2, hl, fun hn => ?_⟩
  obtain ⟨b, off, hA, hlt, hcell⟩ := hc hn
  exact ⟨b, off, hA, Nat.lt_of_lt_of_le hlt hb.size, fun j hj => (hb.cell (p := ⟨b, off + j, none⟩) hlt).trans (hcell j hj)⟩
theorem Reads.of_own {w : World} {base size n : Nat} {e : TypeId} {v : Value} {xs : List Value} (h : w.ownsRow base e size v n xs) : Reads w v size n xs := by
  have hl := h.1
  rcases h.2 with ⟨rfl, rfl⟩ | ⟨g, cap, cur, rfl, _, hg, hnc, hcm, hcs, htake⟩
  · exact ⟨none, 0, rfl, Nat.le_refl _, by unfold maxLen; omega, hl, fun h => absurd h (by omega)⟩
  · refine ⟨_, _, rfl, hnc, hcm, hl, fun _ => ⟨g, 0, rfl, ?_, fun j hj => ?_⟩⟩
    · rcases Nat.lt_or_ge g w.heap.size with hlt | hge
      · exact hlt
      · rw [Array.getElem?_eq_none hge] at hg; cases hg
    · unfold World.cell?
      rw [hg]
      have h1 : (cur.toList.take (n * size))[j]? = xs[j]? := by rw [htake]
      rw [List.getElem?_take_of_lt (by omega), List.getElem?_eq_getElem hj] at h1
      simpa using h1
theorem Reads.nil (w : World) (size : Nat) : Reads w (.slice none 0 0) size 0 [] := ⟨none, 0, rfl, Nat.le_refl _, by unfold maxLen; omega, by simp, fun h => absurd h (by omega)⟩
theorem Reads.of_row {w : World} {g size n cap : Nat} {e : TypeId} {xs : List Value} (h : Row w g e xs) (hl : xs.length = n * size) (h1 : n ≤ cap) (h2 : cap ≤ maxLen) : Reads w (.slice (some ⟨g, 0, none⟩) n cap) size n xs :=
  ⟨_, _, rfl, h1, h2, hl, fun _ => ⟨g, 0, rfl, h.lt, fun j hj => by rw [Nat.zero_add]; exact h.cell j hj⟩⟩
theorem ret_vi {v : Value} {i i' : Int} (h : i = i') : Ending.returned (.tuple #[v, .int .i64 i]) = .returned (.tuple #[v, .int .i64 i']) := by rw [h]
def intsC (xs : List Int) : List Value := xs.map (Value.int .i64)
@[simp, go_sem] theorem length_intsC (xs : List Int) : (intsC xs).length = xs.length := by simp [intsC]

end Go.Proofs.Ytmplabhofhllmaa
