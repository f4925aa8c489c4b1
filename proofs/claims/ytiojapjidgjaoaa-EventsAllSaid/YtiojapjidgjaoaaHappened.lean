/-
  The events' law's own examples hold.
-/
import Derived.Test.YtiojapjidgjaoaaEvRead
import Derived.Test.YtiojapjidgjaoaaMade
namespace Go.Proofs.Ytiojapjidgjaoaa
open Go.RowKit
set_option linter.unusedVariables false

def aT : ByteArray := ⟨#[97]⟩
theorem bytes_ex : bytesV (aT, ⟨#[98, 99]⟩, 4607182418800017408) = [0, 1, 97, 0, 2, 98, 99, 63, 240, 0, 0, 0, 0, 0, 0] := by decide +kernel
theorem ex_Check (x : Ev) (r : Int) (w : World) (hx : okV x) (h : checkV x = r) :
    Calls Try.prog 17 #[.agg #[.string x.1, .string x.2.1, .float .f64 x.2.2]] w fun e w' => e = .returned (.int .i64 r) ∧ Below w.heap.size w w' := by rw [← h]; exact events_Check x w hx
theorem ex_Bytes (x : Ev) (r : List UInt8) (w : World) (hx : okV x) (h : bytesV x = r) :
    Calls Try.prog 19 #[.agg #[.string x.1, .string x.2.1, .float .f64 x.2.2]] w fun e w' => e = .returned (.string (bs r)) ∧ Below w.heap.size w w' := by rw [← h]; exact events_Bytes x w hx
theorem ex_SameV (x y : Ev) (r : Bool) (w : World) (hx : okV x) (hy : okV y) (h : decide (x = y) = r) :
    Calls Try.prog 21 #[.agg #[.string x.1, .string x.2.1, .float .f64 x.2.2], .agg #[.string y.1, .string y.2.1, .float .f64 y.2.2]] w fun e w' => e = .returned (.bool r) ∧ Below w.heap.size w w' := by rw [← h]; exact events_Same x y w hx hy
theorem law_nan (w : World) : Calls Try.prog 40 #[] w fun e w' => e = .returned (.float .f64 9218868437227405317) ∧ Below w.heap.size w w' := by
  have hf : ∀ w : World, (callFunc 39 #[.int .u64 9218868437227405317]).run Try.prog w = .ok (.value (.float .f64 9218868437227405317)) w := fun w => run_f64from 9218868437227405317 w
  go_enter Try.func40, Try.ntmps40
  go_wp2
  go_ret
  exact ⟨rfl, Below.refl _ _⟩

set_option maxHeartbeats 1000000 in
theorem law_happened (w : World) :
    Calls Try.prog 15 #[] w fun e w' => e = .returned (.bool true) ∧ Below w.heap.size w w' := by
  obtain ⟨w1, Z, hmk, hcv, hZl, hb1⟩ := make_zeros w 201 (by omega)
  rw [show ((201 : Nat) : Int) = 201 from rfl] at hmk
  have hf : ∀ w : World, (callFunc 39 #[.int .u64 9223372036854775808]).run Try.prog w = .ok (.value (.float .f64 9223372036854775808)) w := fun w => run_f64from 9223372036854775808 w
  have hx : (bs Z).extract 0 17 = bs (Z.take 17) := by rw [bs_extract, lb_bs, List.drop_zero, Nat.sub_zero]
  have hsz : (bs Z).size = 201 := by rw [size_bs, hZl]
  have m0 : (0 : Nat) ≤ maxLen := Nat.zero_le _
  have m1 : (1 : Nat) ≤ maxLen := by decide
  have m2 : (2 : Nat) ≤ maxLen := by decide
  have m3 : (bs Z).size ≤ maxLen := by rw [hsz]; decide
  have m4 : (bs (Z.take 17)).size ≤ maxLen := by rw [size_bs, List.length_take]; exact Nat.le_trans (Nat.min_le_left _ _) (by decide)
  have k1 : checkV (bs (Z.take 17), (⟨#[]⟩ : ByteArray), 0) = 3 := by
    unfold checkV; simp only [size_bs, List.length_take, hZl]; rfl
  have k2 : checkV ((⟨#[97]⟩ : ByteArray), bs Z, 0) = 3 := by
    unfold checkV; simp only [hsz]; rfl
  have K1 := Lib.hid k1
  have K2 := Lib.hid k2
  have HZ := Lib.hid hZl
  clear k1 k2 hZl
  go_enter Try.func15, Try.ntmps15
  go_wp2_with fail
  refine (ex_Bytes (⟨#[97]⟩, ⟨#[98, 99]⟩, 4607182418800017408) _ _ ⟨m1, m2, by decide⟩ bytes_ex).mono ?_
  rintro e w2 ⟨rfl, hb2⟩
  go_wp2_with fail
  refine (ex_Check (⟨#[]⟩, ⟨#[]⟩, 0) 2 _ ⟨m0, m0, by decide⟩ rfl).mono ?_
  rintro e w3 ⟨rfl, hb3⟩
  go_wp2_with fail
  refine (ex_Check (bs (Z.take 17), ⟨#[]⟩, 0) 3 _ ⟨m4, m0, by show (0 : Nat) < _; decide⟩ K1.out).mono ?_
  rintro e w4 ⟨rfl, hb4⟩
  go_wp2_with fail
  refine (ex_Check (⟨#[97]⟩, bs Z, 0) 3 _ ⟨m1, m3, by show (0 : Nat) < _; decide⟩ K2.out).mono ?_
  rintro e w5 ⟨rfl, hb5⟩
  go_wp2_with fail
  refine (ex_SameV (⟨#[97]⟩, ⟨#[]⟩, 0) (⟨#[97]⟩, ⟨#[]⟩, 9223372036854775808) false _ ⟨m1, m0, by decide⟩ ⟨m1, m0, by decide⟩ (by decide)).mono ?_
  rintro e w6 ⟨rfl, hb6⟩
  go_wp2_with fail
  refine (law_nan _).mono ?_
  rintro e w7 ⟨rfl, hb7⟩
  go_wp2_with fail
  refine (law_nan _).mono ?_
  rintro e w8 ⟨rfl, hb8⟩
  go_wp2_with fail
  refine (ex_SameV (⟨#[97]⟩, ⟨#[]⟩, 9218868437227405317) (⟨#[97]⟩, ⟨#[]⟩, 9218868437227405317) true _ ⟨m1, m0, by decide⟩ ⟨m1, m0, by decide⟩ (by decide)).mono ?_
  rintro e w9 ⟨rfl, hb9⟩
  go_wp2
  go_ret
  exact ⟨rfl, below_chain hb1 (below_chain hb2 (below_chain hb3 (below_chain hb4 (below_chain hb5 (below_chain hb6 (below_chain hb7 (below_chain hb8 hb9)))))))⟩
end Go.Proofs.Ytiojapjidgjaoaa
