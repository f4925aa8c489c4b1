/-
  A REGION THAT DRAWS ITS ORDER AND WHOSE CALLS MAKE MEMORY, but write nothing that was there: one walk in the order of the text serves every order (Derived/Deep/Quiet.lean's theorem, at the class of the worlds that lie above this one).
-/
import Derived.Test.YtmplabhofhllmaaMem
import Derived.Deep.QuietTactic
import Derived.BigQuiet
namespace Go.Proofs.Ytmplabhofhllmaa
open Go.RowKit
set_option linter.unusedVariables false

/-- A world in which nothing of w has turned. -/
structure Later (w : World) where
  it : World
  ok : Below w.heap.size w it
instance (w : World) : Nonempty (Later w) := ⟨⟨w, Below.refl _ _⟩⟩

theorem wp_region_below {P : Program} {id : Nat} {Q : Exit → Act → World → Prop} {a : Act} {w : World} {l : List Oper} (hm : P.follows .mixedOrders = true) (hB : Region.lexB .any l.toArray = true)
    (h : wpQuiet P l.toArray (fun w' => ∃ x : Later w, w' = x.it) (fun a' => ∀ w', (∃ x : Later w, w' = x.it) → Q .normal a' w') l a) : (Code.region id l.toArray true).wp P Q a w :=
  wp_region_quiet (C := fun w' => ∃ x : Later w, w' = x.it) hm hB ⟨⟨_, (Below.refl _ _).drew⟩, rfl⟩ (by simpa using h)
theorem calls_below {P : Program} {f : FuncId} {args : Array Value} {w : World} {v : Value} (x : Later w)
    (h : Calls P f args x.it fun e w'' => e = .returned v ∧ Below x.it.heap.size x.it w'') : Calls P f args x.it fun e w'' => e = .returned v ∧ ∃ y : Later w, w'' = y.it :=
  h.mono fun _ _ ⟨he, hb⟩ => ⟨he, ⟨_, below_chain x.ok hb⟩, rfl⟩
theorem calls_same {P : Program} {f : FuncId} {args : Array Value} {w : World} {v : Value} (x : Later w)
    (h : Calls P f args x.it fun e w'' => e = .returned v ∧ x.it = w'') : Calls P f args x.it fun e w'' => e = .returned v ∧ ∃ y : Later w, w'' = y.it :=
  h.mono fun _ _ ⟨he, hb⟩ => ⟨he, x, hb.symm⟩
end Go.Proofs.Ytmplabhofhllmaa
