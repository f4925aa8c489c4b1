/-
  The law's own examples ('put') hold.
-/
import Derived.Test.YtigjjggkcagkmaaNums
namespace Go.Proofs.Ytigjjggkcagkmaa
open Go.RowKit
set_option linter.unusedVariables false

theorem ex_Put (n size : Int) (l : Array UInt8) (w : World) (hn0 : 0 ≤ n) (hn1 : n < 18446744073709551616) (h : putL n.toNat size = l.toList) :
    Calls Try.prog 16 #[.int .u64 n, .int .i64 size] w fun e w' => e = .returned (.string ⟨l⟩) ∧ Below w.heap.size w w' := by
  have c := nums_Put n size w hn0 hn1
  rw [h] at c
  exact c
theorem ex_Get (l : Array UInt8) (n : Nat) (w : World) (hs : l.size ≤ maxLen) (h : getN l.toList = n) :
    Calls Try.prog 18 #[.string ⟨l⟩] w fun e w' => e = .returned (.int .u64 n) ∧ w = w' := by
  have c := nums_Get ⟨l⟩ w hs
  rw [show lb ⟨l⟩ = l.toList from rfl, h] at c
  exact c
theorem ex_Read (l a b : Array UInt8) (o : Bool) (w : World) (hs : l.size ≤ 9223372036854775000) (h1 : readA l.toList = a.toList) (h2 : readB l.toList = b.toList) (h3 : readOk l.toList = o) :
    Calls Try.prog 20 #[.string ⟨l⟩] w fun e w' => e = .returned (.tuple #[.string ⟨a⟩, .string ⟨b⟩, .bool o]) ∧ Below w.heap.size w w' := by
  have c := nums_Read ⟨l⟩ w hs
  rw [show lb ⟨l⟩ = l.toList from rfl, h1, h2, h3] at c
  exact c
theorem ex_Text (l a : Array UInt8) (w : World) (hs : l.size ≤ 9223372036854775000) (h1 : textL l.toList = a.toList) :
    Calls Try.prog 22 #[.string ⟨l⟩] w fun e w' => e = .returned (.string ⟨a⟩) ∧ Below w.heap.size w w' := by
  have c := nums_Text ⟨l⟩ w hs
  rw [show lb ⟨l⟩ = l.toList from rfl, h1] at c
  exact c

set_option maxHeartbeats 1000000 in
theorem law_put (w : World) :
    Calls Try.prog 15 #[] w fun e w' => e = .returned (.bool true) ∧ Below w.heap.size w w' := by
  go_enter Try.func15, Try.ntmps15
  go_wp2_with fail
  refine (ex_Read _ #[97, 98] #[99] true _ (by decide) (by decide) (by decide) (by decide)).mono ?_
  rintro e w1 ⟨rfl, hb1⟩
  go_wp2_with fail
  refine (ex_Read _ #[] #[] false _ (by decide) (by decide) (by decide) (by decide)).mono ?_
  rintro e w2 ⟨rfl, hb2⟩
  go_wp2_with fail
  refine (ex_Put _ _ #[1, 2] _ (by omega) (by omega) (by decide)).mono ?_
  rintro e w3 ⟨rfl, hb3⟩
  go_wp2_with fail
  refine (ex_Put _ _ #[2] _ (by omega) (by omega) (by decide)).mono ?_
  rintro e w4 ⟨rfl, hb4⟩
  go_wp2_with fail
  refine (ex_Put _ _ #[0, 0, 1] _ (by omega) (by omega) (by decide)).mono ?_
  rintro e w5 ⟨rfl, hb5⟩
  go_wp2_with fail
  refine (ex_Put _ _ #[] _ (by omega) (by omega) (by decide)).mono ?_
  rintro e w6 ⟨rfl, hb6⟩
  go_wp2_with fail
  refine (ex_Get _ 258 _ (by decide) (by decide)).mono ?_
  rintro e w7 ⟨rfl, rfl⟩
  go_wp2_with fail
  refine (ex_Get _ 0 _ (by decide) (by decide)).mono ?_
  rintro e w8 ⟨rfl, rfl⟩
  go_wp2_with fail
  refine (ex_Get _ 18446744073709551615 _ (by decide) (by decide)).mono ?_
  rintro e w9 ⟨rfl, rfl⟩
  go_wp2_with fail
  refine (ex_Text _ #[0, 2, 97, 98] _ (by decide) (by decide)).mono ?_
  rintro e w10 ⟨rfl, hb10⟩
  go_wp2
  go_ret
  refine ⟨rfl, ?_⟩
  repeat (first | assumption | (refine below_chain (by assumption) ?_))
end Go.Proofs.Ytigjjggkcagkmaa
