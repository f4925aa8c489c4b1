/-
  Two blocks alone may have turned.
-/
import Derived.Test.YtmplabhofhllmaaAppAt
namespace Go.Proofs.Ytmplabhofhllmaa
open Go.RowKit
set_option linter.unusedVariables false

theorem grown_set (w : World) (p : Addr) (v : Value) : w.grownBy (w.setCell p v) (some p.block) :=
  ⟨rfl, rfl, rfl, by simp, fun k hk hne => Below.heap_setCell w p v k (fun h => hne (by rw [h]))⟩
theorem own_lt {w : World} {base n size : Nat} {e : TypeId} {v : Value} {xs : List Value} (h : w.ownsRow base e size v n xs) : ∀ k, v.ownBlock = some k → k < w.heap.size := by
  intro k hk
  rcases h.2 with ⟨rfl, _⟩ | ⟨g, cap, cur, rfl, hbs, hgg, _⟩
  · simp [Value.ownBlock] at hk
  · simp [Value.ownBlock] at hk
    subst hk
    exact (Array.getElem?_eq_some_iff.1 hgg).1
theorem own_row {w : World} {base n size k : Nat} {e : TypeId} {v : Value} {xs : List Value} (h : w.ownsRow base e size v n xs) (hk : v.ownBlock = some k) : Row w k e xs := by
  rcases h.2 with ⟨rfl, _⟩ | ⟨g, cap, cur, rfl, hbs, hgg, h1, h2, h3, h4⟩
  · simp [Value.ownBlock] at hk
  · simp [Value.ownBlock] at hk
    subst hk
    exact ⟨cur, (0, 0), hgg, by rw [h.1]; exact h4, by intro j _; simp⟩
theorem row_types {w : World} {g : Nat} {t e : TypeId} {xs ys : List Value} (h : Row w g t xs) (h2 : Row w g e ys) : t = e := by
  obtain ⟨C, fr, hg, -⟩ := h
  obtain ⟨C', fr', hg', -⟩ := h2
  rw [hg] at hg'
  cases hg'; rfl
/-- A row's block is not one of another type. -/
theorem own_other {w : World} {base n size g : Nat} {e t : TypeId} {v : Value} {xs ys : List Value} (h : w.ownsRow base e size v n xs) (hr : Row w g t ys) (hne : e ≠ t) : ∀ k, v.ownBlock = some k → k ≠ g := by
  intro k hk he
  subst he
  obtain ⟨C, fr, hg, -⟩ := hr
  rcases h.2 with ⟨rfl, _⟩ | ⟨g', cap, cur, rfl, _, hgg, _⟩
  · simp [Value.ownBlock] at hk
  · simp [Value.ownBlock] at hk
    subst hk
    rw [hg] at hgg
    simp at hgg
    exact hne hgg.2.1.symm
/-- Two blocks alone may have turned. -/
structure Keep2 (w w' : World) (g : Nat) (b : Option Nat) : Prop where
  os : w'.os = w.os
  tape : w'.tape = w.tape
  output : w'.output = w.output
  size : w.heap.size ≤ w'.heap.size
  block : ∀ k, k < w.heap.size → k ≠ g → some k ≠ b → w'.heap[k]? = w.heap[k]?
theorem Keep2.of_below {w w' : World} (h : Below w.heap.size w w') (g : Nat) (b : Option Nat) : Keep2 w w' g b := ⟨h.os, h.tape, h.output, h.size, fun k hk _ _ => h.block k hk⟩
theorem Keep2.trans {a b c : World} {g : Nat} {o : Option Nat} (h1 : Keep2 a b g o) (h2 : Keep2 b c g o) : Keep2 a c g o :=
  ⟨h2.os.trans h1.os, h2.tape.trans h1.tape, h2.output.trans h1.output, Nat.le_trans h1.size h2.size, fun k hk hg hb => (h2.block k (Nat.lt_of_lt_of_le hk h1.size) hg hb).trans (h1.block k hk hg hb)⟩
theorem Keep2.of_grown {w w' : World} {r : Option Nat} (h : w.grownBy w' r) (g : Nat) : Keep2 w w' g r := ⟨h.os, h.tape, h.output, h.size, fun k hk _ hb => h.block k hk hb⟩
theorem Keep2.of_set {w : World} {g : Nat} (j : Nat) (v : Value) (b : Option Nat) : Keep2 w (w.setCell ⟨g, j, none⟩ v) g b := by
  have h := grown_set w ⟨g, j, none⟩ v
  exact ⟨h.os, h.tape, h.output, h.size, fun k hk hg _ => h.block k hk (by simpa using hg)⟩
theorem Keep2.below {B : Nat} {w w' : World} {g : Nat} {b : Option Nat} (h : Keep2 w w' g b) (hB : B ≤ w.heap.size) (hg : B ≤ g) (hb : ∀ k, b = some k → B ≤ k) : Below B w w' :=
  ⟨h.os, h.tape, h.output, h.size, fun k hk => h.block k (Nat.lt_of_lt_of_le hk hB) (by omega) (fun h => by have := hb k h.symm; omega)⟩
theorem below_chain' {B : Nat} {a b c : World} {g : Nat} {o : Option Nat} (h : Below B a b) (hk : Keep2 b c g o) (hB : B ≤ b.heap.size) (hg : B ≤ g) (ho : ∀ k, o = some k → B ≤ k) : Below B a c :=
  ⟨hk.os.trans h.os, hk.tape.trans h.tape, hk.output.trans h.output, Nat.le_trans h.size hk.size, fun k hlt => (hk.block k (Nat.lt_of_lt_of_le hlt hB) (by omega) (fun h9 => by have := ho k h9.symm; omega)).trans (h.block k hlt)⟩
theorem own_keepR {w w' : World} {base n size : Nat} {e : TypeId} {v : Value} {xs : List Value} (h : w.ownsRow base e size v n xs) (hb : ∀ k, v.ownBlock = some k → w'.heap[k]? = w.heap[k]?) : w'.ownsRow base e size v n xs := by
  refine ⟨h.1, ?_⟩
  rcases h.2 with hn | ⟨g', cap, cur, rfl, hbs, hgg, rest⟩
  · exact .inl hn
  · exact .inr ⟨g', cap, cur, rfl, hbs, (hb g' (by simp [Value.ownBlock])).trans hgg, rest⟩
end Go.Proofs.Ytmplabhofhllmaa
