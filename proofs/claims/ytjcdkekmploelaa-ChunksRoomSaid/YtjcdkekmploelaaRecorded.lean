/-
  The records' law's own examples hold.
-/
import Derived.Test.YtjcdkekmploelaaRecEx
import Derived.Test.YtjcdkekmploelaaRegion
namespace Go.Proofs.Ytjcdkekmploelaa
open Go.RowKit
set_option linter.unusedVariables false

theorem reads_lit (w : World) (C : Array Value) (e : TypeId) (n : Nat) (h : C.size = n) (hm : n ≤ 1000000) : Reads (w.alloc (.cells C e)) (.slice (some ⟨w.heap.size, 0, none⟩) n n) 1 n C.toList :=
  Reads.of_row (Row.new w C e) (by simp [h]) (Nat.le_refl _) (by unfold maxLen; omega)
theorem below_lit (w : World) (o : Obj) : Below w.heap.size w (w.alloc o) := (Below.refl _ _).alloc (Nat.le_refl _) _
theorem ex_Ints (va vb : Value) (xs ys : List Int) (b : Bool) (w : World) (ha : Reads w va 1 xs.length (intsC xs)) (hb : Reads w vb 1 ys.length (intsC ys)) (h : decide (xs = ys) = b) :
    Calls Try.prog 24 #[va, vb] w fun e w' => e = .returned (.bool b) ∧ Below w.heap.size w w' := by
  rw [← h]; exact law_Ints va vb xs ys w ha hb

set_option maxHeartbeats 1000000 in
theorem law_recorded (w : World) :
    Calls Try.prog 16 #[] w fun e w' => e = .returned (.bool true) ∧ Below w.heap.size w w' := by
  have s1 := exR_size
  have s2 := exR2_size
  have s4 := exR_head
  have s5 := exR_tail
  go_enter Try.func16, Try.ntmps16
  go_wp2_with fail
  refine (ex_recPut _).mono ?_
  rintro e w1 ⟨rfl, hb1⟩
  go_wp2_with fail
  refine (ex_recGet0 _).mono ?_
  rintro e w2 ⟨rfl, hb2⟩
  go_wp2_with fail
  refine (ex_recGet1 _).mono ?_
  rintro e w3 ⟨rfl, hb3⟩
  go_wp2_with fail
  refine (ex_recBack14 _).mono ?_
  rintro e w4 ⟨rfl, hb4⟩
  go_wp2_with fail
  refine (ex_recBack13 _).mono ?_
  rintro e w5 ⟨rfl, hb5⟩
  go_wp2_with fail
  refine (ex_recWhole _).mono ?_
  rintro e w6 ⟨v6, rfl, hr6, hb6⟩
  go_wp2_with fail
  refine (ex_recTorn _).mono ?_
  rintro e w7 ⟨v7, rfl, hr7, hb7⟩
  go_wp2_with fail
  have hz7 := below_lit w7 (.cells #[.int .i64 0, .int .i64 14] 3)
  refine (ex_Ints _ _ [0, 14] [0, 14] true _ ((hr6.next hb7).next hz7) (reads_lit w7 _ _ 2 rfl (by decide)) rfl).mono ?_
  rintro e w8 ⟨rfl, hb8⟩
  go_wp2_with fail
  have hz8 := below_lit w8 (.cells #[.int .i64 0] 3)
  refine (ex_Ints _ _ [0] [0] true _ (((hr7.next hz7).next hb8).next hz8) (reads_lit w8 _ _ 1 rfl (by decide)) rfl).mono ?_
  rintro e w9 ⟨rfl, hb9⟩
  go_wp2
  go_ret
  refine ⟨rfl, ?_⟩
  repeat (first | assumption | exact Below.refl _ _ | (refine below_chain (by assumption) ?_))
end Go.Proofs.Ytjcdkekmploelaa
