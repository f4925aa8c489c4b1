/-
  The sums' law's own examples ('summed') hold.
-/
import Derived.Test.YtigjjggkcagkmaaSumsOpen
namespace Go.Proofs.Ytigjjggkcagkmaa
open Go.RowKit
set_option linter.unusedVariables false

theorem ex_Sum (l : Array UInt8) (n : Nat) (w : World) (hs : l.size ≤ maxLen) (h : sumL l.toList = n) :
    Calls Try.prog 31 #[.string ⟨l⟩] w fun e w' => e = .returned (.int .u32 n) ∧ w = w' := by
  have c := sums_Sum ⟨l⟩ w hs
  rw [show lb ⟨l⟩ = l.toList from rfl, h] at c
  exact c
theorem ex_Open (l a : Array UInt8) (o : Bool) (w : World) (hs : l.size ≤ 9223372036854775000) (h1 : openA l.toList = a.toList) (h3 : openOk l.toList = o) :
    Calls Try.prog 36 #[.string ⟨l⟩] w fun e w' => e = .returned (.tuple #[.string ⟨a⟩, .bool o]) ∧ Below w.heap.size w w' := by
  have c := sums_Open ⟨l⟩ w hs
  rw [show lb ⟨l⟩ = l.toList from rfl, h1, h3] at c
  exact c
theorem ex_Seal (l a : Array UInt8) (w : World) (hs : l.size ≤ 9223372036854775000) (h1 : sealL l.toList = a.toList) :
    Calls Try.prog 38 #[.string ⟨l⟩] w fun e w' => e = .returned (.string ⟨a⟩) ∧ Below w.heap.size w w' := by
  have c := sums_Seal ⟨l⟩ w hs
  rw [show lb ⟨l⟩ = l.toList from rfl, h1] at c
  exact c

set_option maxHeartbeats 1000000 in
theorem law_summed (w : World) :
    Calls Try.prog 30 #[] w fun e w' => e = .returned (.bool true) ∧ Below w.heap.size w w' := by
  go_enter Try.func30, Try.ntmps30
  go_wp2_with fail
  refine (ex_Open _ #[] true _ (by decide) (by decide +kernel) (by decide +kernel)).mono ?_
  rintro e w1 ⟨rfl, hb1⟩
  go_wp2_with fail
  refine (ex_Open _ #[] false _ (by decide) (by decide +kernel) (by decide +kernel)).mono ?_
  rintro e w2 ⟨rfl, hb2⟩
  go_wp2_with fail
  refine (ex_Sum _ 0 _ (by decide) (by decide +kernel)).mono ?_
  rintro e w3 ⟨rfl, rfl⟩
  go_wp2_with fail
  refine (ex_Sum _ 3421780262 _ (by decide) (by decide +kernel)).mono ?_
  rintro e w3 ⟨rfl, rfl⟩
  go_wp2_with fail
  refine (ex_Sum _ 3904355907 _ (by decide) (by decide +kernel)).mono ?_
  rintro e w3 ⟨rfl, rfl⟩
  go_wp2_with fail
  refine (ex_Sum _ 3523407757 _ (by decide) (by decide +kernel)).mono ?_
  rintro e w3 ⟨rfl, rfl⟩
  go_wp2_with fail
  refine (ex_Seal _ #[0, 0, 0, 0] _ (by decide) (by decide +kernel)).mono ?_
  rintro e w4 ⟨rfl, hb4⟩
  go_wp2
  go_ret
  refine ⟨rfl, ?_⟩
  repeat (first | assumption | (refine below_chain (by assumption) ?_))
end Go.Proofs.Ytigjjggkcagkmaa
