/-
  A REGION THAT DRAWS ITS ORDER AND WHOSE CALLS MAKE MEMORY, in the body of a loop over an iterator.
-/
import Derived.Test.YtiojapjidgjaoaaRounds
import Derived.Test.YtiojapjidgjaoaaRegion
namespace Go.Proofs.Ytiojapjidgjaoaa
open Go.RowKit
set_option linter.unusedVariables false

theorem region_below_round {F : Fence} {n : Nat} {P : Program} {id : Nat} {Q : Exit → Act → World → Prop} {a : Act} {w : World} {l : List Oper} (r : Nat) (hro : F.round = none) (hb : bareB l = true) (hm : P.follows .mixedOrders = true) (hB : Region.lexB .any l.toArray = true)
    (h : wpQuietIn F n P l.toArray (fun w' => ∃ x : Later w, w' = x.it) (fun a' => ∀ w', (∃ x : Later w, w' = x.it) → Q .normal a' w') l a) : (Code.region id l.toArray true).wpIn (F.inRound r) n P Q a w := by
  simp only [Region.lexB, Bool.and_eq_true] at hB
  refine wpIn_region_any hm (any_round r hb _ _ _ _ ?_)
  refine wpAnyIn_of_quiet (C := fun w' => ∃ x : Later w, w' = x.it) (Q := fun a' => ∀ w', (∃ x : Later w, w' = x.it) → Q .normal a' w') hro (fun _ w' hw' h => h w' hw') _ _ _ _ ⟨⟨w.drew, (Below.refl _ _).drew⟩, rfl⟩ ?_
  have := wpAnyQIn_lex (F := F) (n := n) (C := fun w' => ∃ x : Later w, w' = x.it) (md := .any) hB.1 l 0 (Array.replicate l.toArray.size false) a (by simp) (by simpa using hB.2) h
  simpa using this
end Go.Proofs.Ytiojapjidgjaoaa
