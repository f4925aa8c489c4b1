/-
  THE PLAIN LAW OF MERGES, by places: how far each list has been gone through. And how lists of lists lie in memory.
-/
import Derived.Test.YtigjjggkcagkmaaMergeLaw
import Derived.Test.YtigjjggkcagkmaaEntSorted
import Derived.Test.YtigjjggkcagkmaaAppFull
import Derived.Deep.OwnRows
namespace Go.Proofs.Ytigjjggkcagkmaa
open Go.RowKit
set_option linter.unusedVariables false

def leftM (ls : List (List Ent)) (ps : List Nat) : List (List Ent) := List.zipWith (fun l a => l.drop a) ls ps
theorem left_get {ls : List (List Ent)} {ps : List Nat} {k : Nat} {l : List Ent} {a : Nat} (h1 : ls[k]? = some l) (h2 : ps[k]? = some a) : (leftM ls ps)[k]? = some (l.drop a) := by
  unfold leftM; rw [List.getElem?_zipWith, h1, h2]
theorem left_len {ls : List (List Ent)} {ps : List Nat} (h : ps.length = ls.length) : (leftM ls ps).length = ls.length := by
  unfold leftM; rw [List.length_zipWith, h, Nat.min_self]
theorem left_zero (ls : List (List Ent)) : leftM ls (List.replicate ls.length 0) = ls := by
  unfold leftM
  induction ls with
  | nil => rfl
  | cons l ls ih => rw [List.length_cons, List.replicate_succ, List.zipWith_cons_cons, ih]; simp
def oM (ls : List (List Ent)) (ps : List Nat) (k : Nat) : Option Ent := ((leftM ls ps).take k).foldl headM none
theorem oM_succ {ls : List (List Ent)} {ps : List Nat} {k : Nat} {l : List Ent} {a : Nat} (h1 : ls[k]? = some l) (h2 : ps[k]? = some a) : oM ls ps (k + 1) = headM (oM ls ps k) (l.drop a) := by
  unfold oM
  rw [List.take_add_one, left_get h1 h2, List.foldl_append]; rfl
theorem oM_all {ls : List (List Ent)} {ps : List Nat} (h : ps.length = ls.length) : oM ls ps ls.length = leastM (leftM ls ps) := by
  unfold oM leastM
  rw [List.take_of_length_le (by rw [left_len h]; exact Nat.le_refl _)]
/-- Which list has the least first one, of the first k. -/
def BestIs (ls : List (List Ent)) (ps : List Nat) (k : Nat) (i : Int) : Prop :=
  (i = -1 ∧ oM ls ps k = none) ∨ ∃ (b : Nat) (l : List Ent) (a : Nat) (e : Ent), b < k ∧ i = (b : Int) ∧ ls[b]? = some l ∧ ps[b]? = some a ∧ l[a]? = some e ∧ oM ls ps k = some e
theorem best_zero (ls : List (List Ent)) (ps : List Nat) : BestIs ls ps 0 (-1) := .inl ⟨rfl, rfl⟩
theorem best_skip {ls : List (List Ent)} {ps : List Nat} {k : Nat} {i : Int} {l : List Ent} {a : Nat} (h : BestIs ls ps k i) (h1 : ls[k]? = some l) (h2 : ps[k]? = some a) (h3 : l.length ≤ a) : BestIs ls ps (k + 1) i := by
  have hd : l.drop a = [] := List.drop_of_length_le h3
  have ho : oM ls ps (k + 1) = oM ls ps k := by rw [oM_succ h1 h2, hd]; rfl
  rcases h with ⟨rfl, h⟩ | ⟨b, l', a', e, hb, rfl, g1, g2, g3, h⟩
  · exact .inl ⟨rfl, ho.trans h⟩
  · exact .inr ⟨b, l', a', e, by omega, rfl, g1, g2, g3, ho.trans h⟩
theorem best_first {ls : List (List Ent)} {ps : List Nat} {k : Nat} {l : List Ent} {a : Nat} {e : Ent} (h : oM ls ps k = none) (h1 : ls[k]? = some l) (h2 : ps[k]? = some a) (h3 : l[a]? = some e) : BestIs ls ps (k + 1) k := by
  have ho : oM ls ps (k + 1) = some e := by
    rw [oM_succ h1 h2, h]
    unfold headM
    rw [List.head?_drop, h3]
  exact .inr ⟨k, l, a, e, by omega, rfl, h1, h2, h3, ho⟩
theorem best_less {ls : List (List Ent)} {ps : List Nat} {k : Nat} {l : List Ent} {a : Nat} {e e' : Ent} (h : oM ls ps k = some e') (h1 : ls[k]? = some l) (h2 : ps[k]? = some a) (h3 : l[a]? = some e) (h4 : lessE e e' = true) : BestIs ls ps (k + 1) k := by
  have ho : oM ls ps (k + 1) = some e := by
    rw [oM_succ h1 h2, h]
    unfold headM
    rw [List.head?_drop, h3]
    simp [h4]
  exact .inr ⟨k, l, a, e, by omega, rfl, h1, h2, h3, ho⟩
theorem best_more {ls : List (List Ent)} {ps : List Nat} {k b : Nat} {l l' : List Ent} {a a' : Nat} {e e' : Ent} (h : oM ls ps k = some e') (hb : b < k) (g1 : ls[b]? = some l') (g2 : ps[b]? = some a') (g3 : l'[a']? = some e') (h1 : ls[k]? = some l) (h2 : ps[k]? = some a) (h3 : l[a]? = some e) (h4 : lessE e e' = false) : BestIs ls ps (k + 1) b := by
  have ho : oM ls ps (k + 1) = some e' := by
    rw [oM_succ h1 h2, h]
    unfold headM
    rw [List.head?_drop, h3]
    simp [h4]
  exact .inr ⟨b, l', a', e', by omega, rfl, g1, g2, g3, ho⟩
/-- How far one list is gone through when its first ones e are taken away. -/
def pastM (e : Ent) (l : List Ent) (a : Nat) : Nat := l.length - (offM e (l.drop a)).length
theorem past_drop (e : Ent) {l : List Ent} {a : Nat} (ha : a ≤ l.length) : l.drop (pastM e l a) = offM e (l.drop a) ∧ pastM e l a ≤ l.length ∧ a ≤ pastM e l a := by
  have hs : offM e (l.drop a) <:+ l := (List.dropWhile_suffix _).trans (List.drop_suffix a l)
  have h1 := offM_le e (l.drop a)
  rw [List.length_drop] at h1
  unfold pastM
  obtain ⟨p, hp⟩ := hs
  have hl := congrArg List.length hp
  rw [List.length_append] at hl
  refine ⟨?_, by omega, by omega⟩
  generalize offM e (l.drop a) = q at *
  have : l.length - q.length = p.length := by omega
  rw [this, ← hp, List.drop_left' rfl]
theorem past_step {e : Ent} {l : List Ent} {a : Nat} (h : l[a]? = some e) : pastM e l (a + 1) = pastM e l a := by
  have hlt := (List.getElem?_eq_some_iff.1 h).1
  have hd : l.drop a = e :: l.drop (a + 1) := by
    rw [List.drop_eq_getElem_cons hlt]
    rw [(List.getElem?_eq_some_iff.1 h).2]
  unfold pastM offM
  rw [hd, List.dropWhile_cons_of_pos (by simp)]
theorem past_stop {e x : Ent} {l : List Ent} {a : Nat} (h : l[a]? = some x) (hx : x ≠ e) : pastM e l a = a := by
  have hlt := (List.getElem?_eq_some_iff.1 h).1
  have hd : l.drop a = x :: l.drop (a + 1) := by
    rw [List.drop_eq_getElem_cons hlt]
    rw [(List.getElem?_eq_some_iff.1 h).2]
  unfold pastM offM
  rw [hd, List.dropWhile_cons_of_neg (by simp [hx]), ← hd, List.length_drop]
  omega
theorem past_end {e : Ent} {l : List Ent} {a : Nat} (h : l.length ≤ a) (ha : a ≤ l.length) : pastM e l a = a := by
  unfold pastM offM
  rw [List.drop_of_length_le h]; simp; omega
def nextM (e : Ent) (ls : List (List Ent)) (ps : List Nat) : List Nat := List.zipWith (pastM e) ls ps
theorem next_get {e : Ent} {ls : List (List Ent)} {ps : List Nat} {k : Nat} {l : List Ent} {a : Nat} (h1 : ls[k]? = some l) (h2 : ps[k]? = some a) : (nextM e ls ps)[k]? = some (pastM e l a) := by
  unfold nextM; rw [List.getElem?_zipWith, h1, h2]
theorem next_len {e : Ent} {ls : List (List Ent)} {ps : List Nat} (h : ps.length = ls.length) : (nextM e ls ps).length = ls.length := by
  unfold nextM; rw [List.length_zipWith, h, Nat.min_self]
/-- No place lies behind its list's end. -/
def Within (ls : List (List Ent)) (ps : List Nat) : Prop := ps.length = ls.length ∧ ∀ (k : Nat) (l : List Ent) (a : Nat), ls[k]? = some l → ps[k]? = some a → a ≤ l.length
theorem left_next {e : Ent} {ls : List (List Ent)} {ps : List Nat} (h : Within ls ps) : leftM ls (nextM e ls ps) = (leftM ls ps).map (offM e) ∧ Within ls (nextM e ls ps) := by
  refine ⟨?_, next_len h.1, fun k l a h1 h2 => ?_⟩
  · apply List.ext_getElem?
    intro k
    rcases Nat.lt_or_ge k ls.length with hk | hk
    · have h1 : ls[k]? = some ls[k] := List.getElem?_eq_getElem hk
      have h2 : ps[k]? = some (ps[k]'(by rw [h.1]; exact hk)) := List.getElem?_eq_getElem (by rw [h.1]; exact hk)
      rw [left_get h1 (next_get h1 h2), List.getElem?_map, left_get h1 h2, (past_drop e (h.2 k _ _ h1 h2)).1]; rfl
    · rw [List.getElem?_eq_none (by rw [left_len (next_len h.1)]; exact hk), List.getElem?_eq_none (by rw [List.length_map, left_len h.1]; exact hk)]
  · have hk := (List.getElem?_eq_some_iff.1 h1).1
    have h3 : ps[k]? = some (ps[k]'(by rw [h.1]; exact hk)) := List.getElem?_eq_getElem (by rw [h.1]; exact hk)
    have := next_get (e := e) h1 h3
    rw [h2, Option.some.injEq] at this
    rw [this]
    exact (past_drop e (h.2 k _ _ h1 h3)).2.1
/-- The places when k lists have been gone through. -/
def midM (e : Ent) (ls : List (List Ent)) (ps : List Nat) (k : Nat) : List Nat := (nextM e ls ps).take k ++ ps.drop k
theorem mid_len {e : Ent} {ls : List (List Ent)} {ps : List Nat} (h : ps.length = ls.length) (k : Nat) (hk : k ≤ ls.length) : (midM e ls ps k).length = ls.length := by
  unfold midM
  rw [List.length_append, List.length_take, next_len h, List.length_drop]; omega
theorem mid_get {e : Ent} {ls : List (List Ent)} {ps : List Nat} (h : ps.length = ls.length) (k : Nat) (hk : k < ls.length) : (midM e ls ps k)[k]? = ps[k]? := by
  unfold midM
  rw [List.getElem?_append_right (by rw [List.length_take]; omega), List.length_take, next_len h, Nat.min_eq_left (by omega), List.getElem?_drop]; simp
theorem mid_set {e : Ent} {ls : List (List Ent)} {ps : List Nat} {k : Nat} {l : List Ent} {a : Nat} (h : ps.length = ls.length) (h1 : ls[k]? = some l) (h2 : ps[k]? = some a) : (midM e ls ps k).set k (pastM e l a) = midM e ls ps (k + 1) := by
  have hk := (List.getElem?_eq_some_iff.1 h1).1
  have hk2 := (List.getElem?_eq_some_iff.1 h2).1
  have ht : ((nextM e ls ps).take k).length = k := by rw [List.length_take, next_len h]; omega
  unfold midM
  rw [List.set_append_right _ _ (by omega), ht, Nat.sub_self, List.take_add_one, next_get h1 h2, List.drop_eq_getElem_cons hk2, List.set_cons_zero, List.append_assoc]
  rfl
theorem mid_zero (e : Ent) (ls : List (List Ent)) (ps : List Nat) : midM e ls ps 0 = ps := by unfold midM; simp
theorem mid_all {e : Ent} {ls : List (List Ent)} {ps : List Nat} (h : ps.length = ls.length) : midM e ls ps ls.length = nextM e ls ps := by
  unfold midM
  rw [List.take_of_length_le (by rw [next_len h]; exact Nat.le_refl _), List.drop_of_length_le (by omega), List.append_nil]

/-- A list of lists of entries in memory. -/
def Lists (w : World) (v : Value) (ls : List (List Ent)) : Prop := ∃ vs : List Value, vs.length = ls.length ∧ Reads w v 1 vs.length vs ∧ ∀ (k : Nat) (x : Value) (l : List Ent), vs[k]? = some x → ls[k]? = some l → Ents w x l
theorem Lists.next {w w' : World} {v : Value} {ls : List (List Ent)} (h : Lists w v ls) (hb : Below w.heap.size w w') : Lists w' v ls := by
  obtain ⟨vs, h1, h2, h3⟩ := h
  exact ⟨vs, h1, h2.next hb, fun k x l hx hl => (h3 k x l hx hl).next hb⟩
def asC (ps : List Nat) : List Value := ps.map fun a => .int .i64 (a : Nat)
@[simp, go_sem] theorem length_asC (ps : List Nat) : (asC ps).length = ps.length := by simp [asC]
theorem asC_set (ps : List Nat) (k a : Nat) : (asC ps).set k (.int .i64 (a : Nat)) = asC (ps.set k a) := by unfold asC; rw [List.map_set]
theorem asC_get {ps : List Nat} {k a : Nat} (h : ps[k]? = some a) : (asC ps)[k]? = some (.int .i64 (a : Nat)) := by unfold asC; rw [List.getElem?_map, h]; rfl
theorem row_at {w : World} {g : Nat} {t : TypeId} {ps : List Nat} (h : Row w g t (asC ps)) {k a : Nat} (ha : ps[k]? = some a) : w.cell? ⟨g, k, none⟩ = some (.int .i64 (a : Nat)) ∧ w.frozen? ⟨g, k, none⟩ = false := by
  have hk := (List.getElem?_eq_some_iff.1 ha).1
  have h1 := h.cell k (by simpa using hk)
  have h2 := asC_get ha
  rw [List.getElem?_eq_getElem (by simpa using hk), Option.some.injEq] at h2
  exact ⟨by rw [h1, h2], h.frozen k (by simpa using hk)⟩
/-- The places that lie at block g. -/
def asOf (w : World) (g n : Nat) : List Nat := (List.range n).map fun k => match w.cell? ⟨g, k, none⟩ with
  | some (.int _ i) => i.toNat
  | _ => 0
theorem asOf_row {w : World} {g : Nat} {t : TypeId} {ps : List Nat} (h : Row w g t (asC ps)) : asOf w g ps.length = ps := by
  apply List.ext_getElem (by simp [asOf])
  intro k h1 h2
  have := (row_at h (List.getElem?_eq_getElem h2)).1
  simp [asOf, this]
theorem infoInt : (Try.prog.info? 3).map (fun i => (i.zero, i.size, i.bytes)) = some (some (.int .i64 0), 1, 8) := by kernel_rfl
theorem make_ints (w : World) (n : Nat) (hn : n ≤ 1000000) :
    ∃ w', (Instr.makeSlice 58 (.int .i64 (n : Int)) (.int .i64 (n : Int))).run Try.prog w = .ok (.slice (some ⟨w.heap.size, 0, none⟩) n n) w' ∧ Row w' w.heap.size 3 (asC (List.replicate n 0)) ∧ Below w.heap.size w w' ∧ w.heap.size < w'.heap.size := by
  have h := Row.new w (madeCells #[.int .i64 0] n) 3
  refine ⟨_, run_make_row' 58 3 (.int .i64 0) 8 Try.underlying58 infoInt rfl .i64 .i64 n (by omega) (by omega) w, ?_, (Below.refl _ _).alloc (Nat.le_refl _) _, h.lt⟩
  have e : (madeCells #[Value.int .i64 0] n).toList = asC (List.replicate n 0) := by
    apply List.ext_getElem
    · simp [madeCells, asC]
    · intro i h1 h2
      simp [madeCells, asC, Nat.mod_one]
  rw [e] at h
  exact h
end Go.Proofs.Ytigjjggkcagkmaa
