/-
  A SLICE OF BYTES OF THE CALL's OWN, out of a string, onto which strings are appended.
-/
import Derived.Test.YtikodobglhjoiaaMem
import Derived.Test.YtikodobglhjoiaaAppFull
import Derived.Laws.IdiomCopy
namespace Go.Proofs.Ytikodobglhjoiaa
open Go.RowKit
set_option linter.unusedVariables false

/-- Block g holds the bytes l, and room for cap ones that may be written. -/
def BytesOwn (w : World) (g cap : Nat) (l : List UInt8) : Prop :=
  l.length ≤ cap ∧ cap ≤ maxLen ∧ (∀ j (h : j < l.length), w.cell? ⟨g, j, none⟩ = some (.int .u8 (l[j].toNat : Int))) ∧ (∀ j, j < cap → (w.cell? ⟨g, j, none⟩).isSome = true ∧ w.frozen? ⟨g, j, none⟩ = false) ∧ g < w.heap.size
theorem BytesOwn.next {w w' : World} {g cap : Nat} {l : List UInt8} (h : BytesOwn w g cap l) (hb : Below w.heap.size w w') : BytesOwn w' g cap l := by
  obtain ⟨h1, h2, h3, h4, h5⟩ := h
  have hc : ∀ j, w'.cell? ⟨g, j, none⟩ = w.cell? ⟨g, j, none⟩ := fun j => hb.cell (p := ⟨g, j, none⟩) h5
  have hf : ∀ j, w'.frozen? ⟨g, j, none⟩ = w.frozen? ⟨g, j, none⟩ := fun j => hb.frozen (p := ⟨g, j, none⟩) h5
  exact ⟨h1, h2, fun j h => (hc j).trans (h3 j h), fun j h => by rw [hc, hf]; exact h4 j h, Nat.lt_of_lt_of_le h5 hb.size⟩
theorem BytesOwn.conv {P : Program} {w : World} {g cap n : Nat} {e src dst : TypeId} {l : List UInt8} (h : BytesOwn w g cap l) (hn : l.length = n)
    (hs : P.underlying src = some (.slice e)) (he : P.underlying e = some (.int .u8)) (hd : P.underlying dst = some .string) :
    (convert src dst (.slice (some ⟨g, 0, none⟩) n cap)).run P w = .ok (.string (bs l)) w := by
  subst hn
  exact run_convert_bytes_back w src dst e ⟨g, 0, none⟩ cap l hs he hd (fun j hj => by rw [Addr.add_lit, Nat.zero_add, h.2.2.1 j hj])
theorem BytesOwn.ofString {P : Program} (w : World) (src dst e : TypeId) (s : ByteArray) (hsz : s.size ≤ 1000000000) (hs : P.underlying src = some .string) (hd : P.underlying dst = some (.slice e)) (he : P.underlying e = some (.int .u8)) :
    ∃ w' cap, (convert src dst (.string s)).run P w = .ok (.slice (some ⟨w.heap.size, 0, none⟩) s.size cap) w' ∧ BytesOwn w' w.heap.size cap (lb s) ∧ Below w.heap.size w w' := by
  have hcap := grownCap_le_maxLen w s.size 0 e (by unfold maxLen; omega)
  have hge := grownCap_ge w s.size 0 e
  refine ⟨_, _, run_bytes_of_string w src dst e s hs hd he, ?_, ((Below.refl _ _).drew).alloc (Nat.le_refl _) _⟩
  have hblk := heap_alloc_new w.drew (.cells (bytesRow s (grownCap w s.size 0 e)) e ((bytesRow s (grownCap w s.size 0 e)).size, (bytesRow s (grownCap w s.size 0 e)).size + 1))
  have hsize : (bytesRow s (grownCap w s.size 0 e)).size = grownCap w s.size 0 e := by
    have hd : s.data.size = s.size := rfl
    unfold bytesRow
    rw [Array.size_append, Array.size_map, hd, Array.size_replicate]
    omega
  generalize hW : w.drew.alloc (.cells (bytesRow s (grownCap w s.size 0 e)) e ((bytesRow s (grownCap w s.size 0 e)).size, (bytesRow s (grownCap w s.size 0 e)).size + 1)) = W at hblk ⊢
  refine ⟨by rw [length_lb]; exact hge, hcap, fun j hj => ?_, fun j hj => ?_, ?_⟩
  · rw [length_lb] at hj
    unfold World.cell?
    rw [show W.heap[w.heap.size]? = _ from hblk]
    unfold bytesRow
    simp only []
    have hd : s.data.size = s.size := rfl
    rw [Array.getElem?_append_left (by rw [Array.size_map, hd]; exact hj), Array.getElem?_map, Array.getElem?_eq_getElem (by rw [hd]; exact hj)]
    rfl
  · constructor
    · unfold World.cell?
      rw [show W.heap[w.heap.size]? = _ from hblk]
      simp only []
      rw [Array.getElem?_eq_getElem (by rw [hsize]; exact hj)]; rfl
    · unfold World.frozen?
      rw [show W.heap[w.heap.size]? = _ from hblk]
      simp only [hsize]
      simp; omega
  · rw [← hW]; simp
theorem setCells_below {B : Nat} {a : World} (g : Nat) (hg : B ≤ g) : ∀ (vs : List Value) (o : Nat) (w : World), Below B a w → Below B a (w.setCells g o vs) ∧ (w.setCells g o vs).heap.size = w.heap.size
  | [], _, w, h => ⟨h, rfl⟩
  | v :: r, o, w, h => by
    have := setCells_below g hg r (o + 1) (w.setCell ⟨g, o, none⟩ v) (h.setCell hg v)
    exact ⟨this.1, this.2.trans (by simp)⟩
theorem byteCells_lb (s : ByteArray) : byteCells s = cellsB (lb s) := by simp [byteCells, cellsB, lb]
theorem BytesOwn.append {P : Program} {w : World} {g cap n : Nat} {l : List UInt8} {t u ty e : TypeId} {i : TypeInfo} {z : Value} (h : BytesOwn w g cap l) (hn : l.length = n) (s : ByteArray) (ht : P.underlying t = some (.slice e)) (hu : P.underlying u = some .string) (hi : P.info? e = some i) (hz : i.zero = some z) (hsize : i.size = 1) (hby : i.bytes = 1) (hzs : z.cells.size = 1)
    (base : Nat) (hg : base ≤ g) (hb : base ≤ w.heap.size) (hlen : n + s.size ≤ 1000000000) :
    ∃ g' cap' w', (Builtin.append_ #[t, u] ty #[.slice (some ⟨g, 0, none⟩) n cap, .string s]).run P w = .ok (.slice (some ⟨g', 0, none⟩) (n + s.size) cap') w' ∧ BytesOwn w' g' cap' (l ++ lb s) ∧ base ≤ g' ∧ Below base w w' := by
  obtain ⟨h1, h2, h3, h4, h5⟩ := h
  have hs : Src P i.size u (.string s) s.size (byteCells s) w := by rw [hsize]; exact Src.ofString w hu s
  have hbl : (byteCells s).length = s.size := byteCells_length s
  have hll : (lb s).length = s.size := length_lb s
  by_cases hroom : n + s.size ≤ cap
  · have hrun := run_append_room_src (P := P) w t u ty e i ht hi g 0 n cap (.string s) s.size (byteCells s) hs hroom
      (fun j hj => by rw [hsize, Nat.mul_one, Nat.zero_add]; exact (h4 (n + j) (by omega)).1) (fun j hj => by rw [hsize, Nat.mul_one, Nat.zero_add]; exact (h4 (n + j) (by omega)).2)
    rw [hsize, Nat.mul_one, Nat.zero_add] at hrun
    obtain ⟨k1, k2⟩ := setCells_below (B := base) (a := w) g hg (byteCells s) n w (Below.refl _ _)
    refine ⟨g, cap, _, hrun, ⟨by rw [List.length_append, hn, hll]; exact hroom, h2, fun j hj => ?_, fun j hj => ?_, by rw [k2]; exact h5⟩, hg, k1⟩
    · rw [List.length_append, hn, hll] at hj
      rcases Nat.lt_or_ge j n with hjn | hjn
      · rw [World.cell?_setCells_out g (byteCells s) n w ⟨g, j, none⟩ (fun _ _ => .inl hjn), h3 j (by omega), List.getElem_append_left (by omega)]
      · have := World.cell?_setCells_in g (byteCells s) n w (fun k hk => (h4 (n + k) (by omega)).1) (j - n) (by omega)
        rw [show n + (j - n) = j from by omega] at this
        rw [this, List.getElem_append_right (by omega)]
        simp only [byteCells_lb, cellsB, List.getElem_map, hn]
    · refine ⟨?_, by rw [World.frozen?_setCells]; exact (h4 j hj).2⟩
      rcases Nat.lt_or_ge j n with hjn | hjn
      · rw [World.cell?_setCells_out g (byteCells s) n w ⟨g, j, none⟩ (fun _ _ => .inl hjn)]; exact (h4 j hj).1
      · rcases Nat.lt_or_ge j (n + s.size) with hjm | hjm
        · have := World.cell?_setCells_in g (byteCells s) n w (fun k hk => (h4 (n + k) (by omega)).1) (j - n) (by omega)
          rw [show n + (j - n) = j from by omega] at this
          rw [this]; rfl
        · rw [World.cell?_setCells_out g (byteCells s) n w ⟨g, j, none⟩ (fun _ _ => .inr (by rw [hbl]; exact hjm))]; exact (h4 j hj).1
  · have hold : (Builtin.firstCells i.size n (.slice (some ⟨g, 0, none⟩) n cap)).run P w.drew = .ok (cellsB l).toArray w.drew := by
      rw [hsize]
      exact run_firstCells_some w.drew 1 n ⟨g, 0, none⟩ n cap (cellsB l) (by simp [hn]) (fun j v hj => by
        have hj2 : j < l.length := by have := (List.getElem?_eq_some_iff.1 hj).1; simpa using this
        rw [Addr.add_lit, Nat.zero_add]
        have h9 : (cellsB l)[j]? = some (.int .u8 (l[j].toNat : Int)) := cellsB_get l j hj2
        rw [h9] at hj
        rw [← hj]
        exact h3 j hj2)
    have hfit : Builtin.nextslicecap (n + s.size) cap * i.bytes ≤ 281474976710656 := growslice_fits (by omega) (by rw [hby]; omega)
    have hrun := run_append_grow_src (P := P) w t u ty e i z ht hi hz (some ⟨g, 0, none⟩) n cap (cellsB l) hold (.string s) s.size (byteCells s) hs (by omega) (by omega) hfit
    have hge := grownCap_ge w (n + s.size) cap e
    have hcm := grownCap_le_maxLen w (n + s.size) cap e (by unfold maxLen; omega)
    have hl1 : (cellsB l ++ byteCells s).length = n + s.size := by rw [List.length_append, hbl, length_cellsB, hn]
    refine ⟨w.heap.size, _, _, hrun, ⟨by rw [List.length_append, hn, hll]; exact hge, hcm, fun j hj => ?_, fun j hj => ?_, by simp⟩, hb, (Below.refl base w).drew.alloc hb _⟩
    · have hblk := heap_alloc_new w.drew (.cells ((cellsB l ++ byteCells s).toArray ++ Builtin.zeroCells z.cells (grownCap w (n + s.size) cap e - (n + s.size))) e)
      unfold World.cell?
      rw [show (w.drew.alloc _).heap[w.heap.size]? = _ from hblk]
      rw [List.length_append, hn, hll] at hj
      simp only []
      rw [Array.getElem?_append_left (by simpa [hl1] using hj)]
      have e9 : cellsB l ++ byteCells s = cellsB (l ++ lb s) := by rw [byteCells_lb]; simp [cellsB]
      rw [e9, List.getElem?_toArray, cellsB_get (l ++ lb s) j (by rw [List.length_append, hn, hll]; exact hj)]
      rfl
    · have hblk := heap_alloc_new w.drew (.cells ((cellsB l ++ byteCells s).toArray ++ Builtin.zeroCells z.cells (grownCap w (n + s.size) cap e - (n + s.size))) e)
      constructor
      · unfold World.cell?
        rw [show (w.drew.alloc _).heap[w.heap.size]? = _ from hblk]
        simp only []
        rw [Array.getElem?_eq_getElem (by rw [Array.size_append, size_zeroCells, hzs]; simp [hl1]; omega)]; rfl
      · unfold World.frozen?
        rw [show (w.drew.alloc _).heap[w.heap.size]? = _ from hblk]
        simp
theorem wpList_append_bytes {P : Program} (w : World) {ops : Array Oper} {rest : List Oper} {o : Oper} {a : Act} {Q : Exit → Act → World → Prop} (hgd : o.guard = none) (sl x : Operand) (t u : TypeId)
    (ho : o.op = .call { callee := .builtin .append, args := #[sl, x], argTypes := #[t, u] })
    {g cap n : Nat} {l : List UInt8} {e : TypeId} {i : TypeInfo} {z : Value} (hs : a.eval sl = .slice (some ⟨g, 0, none⟩) n cap) (hown : BytesOwn w g cap l) (hn : l.length = n) (s : ByteArray) (hx : a.eval x = .string s)
    (ht : P.underlying t = some (.slice e)) (hu : P.underlying u = some .string) (hi : P.info? e = some i) (hz : i.zero = some z) (hsize : i.size = 1) (hby : i.bytes = 1) (hzs : z.cells.size = 1)
    (base : Nat) (hg : base ≤ g) (hb : base ≤ w.heap.size) (hlen : n + s.size ≤ 1000000000)
    (h : ∀ g' cap' w', BytesOwn w' g' cap' (l ++ lb s) → base ≤ g' → Below base w w' → wpList P ops Q rest (a.put o.dst (.slice (some ⟨g', 0, none⟩) (n + s.size) cap')) w') : wpList P ops Q (o :: rest) a w := by
  obtain ⟨g', cap', w', hr, h2, h3, h4⟩ := hown.append (P := P) (ty := o.type) hn s ht hu hi hz hsize hby hzs base hg hb hlen
  refine wpList_plain hgd fun K hK => ?_
  unfold Oper.wp execOp
  simp only [ho, resolve, invoke, builtin, Sem.run_bind, Sem.run_pure, Result.andThen_ok, List.map_toArray, List.map_cons, List.map_nil, hs, hx, hr]
  exact hK _ _ (h g' cap' w' h2 h3 h4)
end Go.Proofs.Ytikodobglhjoiaa
