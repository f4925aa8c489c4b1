/-
  The blooms' law's own examples hold.
-/
import Derived.Test.YtpoeginnoocenaaBloomRefMake
namespace Go.Proofs.Ytpoeginnoocenaa
open Go.RowKit
set_option linter.unusedVariables false

theorem ex_Probe (h : Nat) (i b : Int) (r : Nat) (w : World) (hh : h < 18446744073709551616) (hi : -9223372036854775808 ≤ i ∧ i ≤ 9223372036854775807) (hb : -9223372036854775808 ≤ b ∧ b ≤ 9223372036854775807) (e : prB h i b = r) :
    Calls Try.prog 15 #[.int .u64 h, .int .i64 i, .int .i64 b] w fun e w' => e = .returned (.int .i64 (r : Nat)) ∧ w = w' := by
  rw [← e]; exact blooms_Probe h i b w hh hi hb
theorem ex_Has (l : Array UInt8) (n : Int) (h : Nat) (o : Bool) (w : World) (hs : l.size ≤ 1000000000) (hn : -9223372036854775808 ≤ n ∧ n ≤ 9223372036854775807) (hh : h < 18446744073709551616) (e : hasL l.toList n h = o) :
    Calls Try.prog 17 #[.string ⟨l⟩, .int .i64 n, .int .u64 h] w fun e w' => e = .returned (.bool o) ∧ Below w.heap.size w w' := by
  rw [← e]; exact blooms_Has ⟨l⟩ n h w hs hn hh
theorem ex_MakeNil (n b : Int) (r : Array UInt8) (w : World) (hn : -9223372036854775808 ≤ n ∧ n ≤ 9223372036854775807) (hb : -9223372036854775808 ≤ b ∧ b ≤ 9223372036854775807) (e : makeL [] n b = r.toList) :
    Calls Try.prog 19 #[.slice none 0 0, .int .i64 n, .int .i64 b] w fun e w' => e = .returned (.string ⟨r⟩) ∧ Below w.heap.size w w' := by
  have c := blooms_Make (.slice none 0 0) [] n b w ⟨Reads.nil _ _, by simp⟩ (by decide) hn hb
  rw [e] at c; exact c
theorem reads_lit (w : World) (C : Array Value) (e : TypeId) (n : Nat) (h : C.size = n) (hm : n ≤ 1000000) : Reads (w.alloc (.cells C e)) (.slice (some ⟨w.heap.size, 0, none⟩) n n) 1 n C.toList :=
  Reads.of_row (Row.new w C e) (by simp [h]) (Nat.le_refl _) (by unfold maxLen; omega)
theorem below_lit (w : World) (o : Obj) : Below w.heap.size w (w.alloc o) := (Below.refl _ _).alloc (Nat.le_refl _) _
theorem ex_Make1 (w : World) :
    Calls Try.prog 19 #[.slice (some ⟨w.heap.size, 0, none⟩) 1 1, .int .i64 2, .int .i64 8] (w.alloc (.cells #[.int .u64 0] 22)) fun e w' => e = .returned (.string ⟨#[3]⟩) ∧ Below w.heap.size w w' := by
  have c := blooms_Make (.slice (some ⟨w.heap.size, 0, none⟩) 1 1) [0] 2 8 (w.alloc (.cells #[.int .u64 0] 22)) ⟨reads_lit w #[.int .u64 0] _ 1 rfl (by decide), by decide⟩ (by decide) (by decide) (by decide)
  rw [show makeL [0] 2 8 = [3] from by decide +kernel] at c
  exact c.mono fun e w' ⟨h1, h2⟩ => ⟨h1, below_chain (below_lit w _) h2⟩

set_option maxHeartbeats 1000000 in
theorem law_bloomed (w : World) :
    Calls Try.prog 14 #[] w fun e w' => e = .returned (.bool true) ∧ Below w.heap.size w w' := by
  go_enter Try.func14, Try.ntmps14
  go_wp2_with fail
  refine (ex_Probe 5 0 8 5 _ (by decide) (by decide) (by decide) (by decide +kernel)).mono ?_
  rintro e w' ⟨rfl, rfl⟩
  go_wp2_with fail
  refine (ex_Probe 5 3 8 0 _ (by decide) (by decide) (by decide) (by decide +kernel)).mono ?_
  rintro e w' ⟨rfl, rfl⟩
  go_wp2_with fail
  refine (ex_Probe 5 1 0 0 _ (by decide) (by decide) (by decide) (by decide +kernel)).mono ?_
  rintro e w' ⟨rfl, rfl⟩
  go_wp2_with fail
  refine (ex_Make1 _).mono ?_
  rintro e w1 ⟨rfl, hb1⟩
  go_wp2_with fail
  refine (ex_MakeNil 2 8 #[0] _ (by decide) (by decide) (by decide +kernel)).mono ?_
  rintro e w2 ⟨rfl, hb2⟩
  go_wp2_with fail
  refine (ex_MakeNil 2 9 #[] _ (by decide) (by decide) (by decide +kernel)).mono ?_
  rintro e w3 ⟨rfl, hb3⟩
  go_wp2_with fail
  refine (ex_Has _ 2 0 true _ (by decide) (by decide) (by decide) (by decide +kernel)).mono ?_
  rintro e w4 ⟨rfl, hb4⟩
  go_wp2_with fail
  refine (ex_Has _ 3 0 false _ (by decide) (by decide) (by decide) (by decide +kernel)).mono ?_
  rintro e w5 ⟨rfl, hb5⟩
  go_wp2_with fail
  refine (ex_Has _ 3 0 true _ (by decide) (by decide) (by decide) (by decide +kernel)).mono ?_
  rintro e w6 ⟨rfl, hb6⟩
  go_wp2
  go_ret
  refine ⟨rfl, ?_⟩
  repeat (first | assumption | exact Below.refl _ _ | (refine below_chain (by assumption) ?_))
end Go.Proofs.Ytpoeginnoocenaa
