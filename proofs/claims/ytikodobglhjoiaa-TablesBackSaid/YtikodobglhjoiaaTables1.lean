/-
  TABLES: how many bytes, and where; the bytes of a table; the reference's Put.
-/
import Derived.Test.YtikodobglhjoiaaEntRefS
import Derived.Test.YtikodobglhjoiaaEntPlain
import Derived.Test.YtikodobglhjoiaaSumsOpen
namespace Go.Proofs.Ytikodobglhjoiaa
open Go.RowKit
set_option linter.unusedVariables false

def sizeT (n : Int) : Int := if n < 0 ∨ 89478484 < n then 0 else 12 + 24 * n
def atT (n : Int) : Int := if n < 0 ∨ 89478484 < n then 0 else 8 + 24 * n
theorem tables_Size (n : Int) (w : World) (hn : -9223372036854775808 ≤ n ∧ n ≤ 9223372036854775807) :
    Calls Try.prog 49 #[.int .i64 n] w fun e w' => e = .returned (.int .i64 (sizeT n)) ∧ w = w' := by
  unfold sizeT
  go_enter Try.func49, Try.ntmps49
  by_cases h1 : n < 0
  · go_wp2
    go_ret
    exact ⟨by simp [h1], rfl⟩
  · by_cases h2 : 89478484 < n
    · go_wp2
      go_ret
      exact ⟨by simp [h2], rfl⟩
    · have w1 : IntKind.i64.wrap (n * 24) = n * 24 := by rw [IntKind.wrap_i64]; omega
      have w2 : IntKind.i64.wrap (8 + n * 24) = 8 + n * 24 := by rw [IntKind.wrap_i64]; omega
      have w3 : IntKind.i64.wrap (8 + n * 24 + 4) = 8 + n * 24 + 4 := by rw [IntKind.wrap_i64]; omega
      go_wp2
      go_ret
      exact ⟨ret_int (by first | omega | (simp [h1, h2]; omega)), rfl⟩
theorem ref_Size (n : Int) (w : World) (hn : -9223372036854775808 ≤ n ∧ n ≤ 9223372036854775807) :
    Calls Try.prog 47 #[.int .i64 n] w fun e w' => e = .returned (.int .i64 (sizeT n)) ∧ w = w' := by
  unfold sizeT
  go_enter Try.func47, Try.ntmps47
  by_cases h1 : n < 0
  · go_wp2
    go_ret
    exact ⟨by simp [h1], rfl⟩
  · by_cases h2 : 89478484 < n
    · go_wp2
      go_ret
      exact ⟨by simp [h2], rfl⟩
    · have w1 : IntKind.i64.wrap (24 * n) = 24 * n := by rw [IntKind.wrap_i64]; omega
      have w2 : IntKind.i64.wrap (12 + 24 * n) = 12 + 24 * n := by rw [IntKind.wrap_i64]; omega
      go_wp2
      go_ret
      exact ⟨ret_int (by first | rfl | omega | simp [h1, h2]), rfl⟩
theorem tables_At (n : Int) (w : World) (hn : -9223372036854775808 ≤ n ∧ n ≤ 9223372036854775807) :
    Calls Try.prog 50 #[.int .i64 n] w fun e w' => e = .returned (.int .i64 (atT n)) ∧ w = w' := by
  have hc := fun w => tables_Size n w hn
  unfold atT
  unfold sizeT at hc
  go_enter Try.func50, Try.ntmps50
  by_cases h1 : n < 0
  · clear hc
    go_wp2
    go_ret
    exact ⟨by simp [h1], rfl⟩
  · by_cases h2 : 89478484 < n
    · rw [if_pos (Or.inr h2)] at hc
      go_wp2_with fail
      refine (hc _).mono ?_
      rintro e w' ⟨rfl, rfl⟩
      clear hc
      go_wp2
      go_ret
      exact ⟨by simp [h2], rfl⟩
    · have w1 : IntKind.i64.wrap (n * 24) = n * 24 := by rw [IntKind.wrap_i64]; omega
      have w2 : IntKind.i64.wrap (8 + n * 24) = 8 + n * 24 := by rw [IntKind.wrap_i64]; omega
      rw [if_neg (by omega)] at hc
      have hz : ¬ (12 + 24 * n = 0) := by omega
      go_wp2_with fail
      refine (hc _).mono ?_
      rintro e w' ⟨rfl, rfl⟩
      clear hc
      go_wp2
      go_ret
      exact ⟨ret_int (by first | omega | (simp [h1, h2]; omega)), rfl⟩

/-- The bytes of a table, without the sum. -/
def headT (n : Nat) : List UInt8 := [112, 116, 97, 98] ++ be 4 n
def bodyT (l : List Ent) : List UInt8 := l.flatMap putEnt
def rawT (l : List Ent) : List UInt8 := headT l.length ++ bodyT l
def mayT (l : List Ent) : Bool := sortedE l && l.all mayE
def putT (l : List Ent) : List UInt8 := if mayT l then sealL (rawT l) else []
def errT (l : List Ent) : Int := if mayT l then 0 else 2
theorem length_bodyT {l : List Ent} (h : l.all mayE = true) : (bodyT l).length = l.length * 24 := by
  induction l with
  | nil => rfl
  | cons e l ih =>
    simp only [List.all_cons, Bool.and_eq_true] at h
    have := ih h.2
    unfold bodyT at this ⊢
    rw [List.flatMap_cons, List.length_append, putEnt_length h.1, this, List.length_cons]; omega
theorem putEnt_nil_iff {e : Ent} : putEnt e = [] ↔ mayE e = false := by
  rcases h : mayE e with _ | _
  · simp [putEnt_no h]
  · constructor
    · intro h2
      have := putEnt_length h
      rw [h2] at this; cases this
    · intro h2; cases h2
theorem bodyT_succ {l : List Ent} {k : Nat} {e : Ent} (h : l[k]? = some e) : bodyT (l.take (k + 1)) = bodyT (l.take k) ++ putEnt e := by
  unfold bodyT
  rw [List.take_add_one, h, List.flatMap_append]; simp
theorem all_take_succ {l : List Ent} {k : Nat} {e : Ent} (h : l[k]? = some e) : (l.take (k + 1)).all mayE = ((l.take k).all mayE && mayE e) := by
  rw [List.take_add_one, h, List.all_append]; simp
theorem ret_sI {a a' : ByteArray} {i i' : Int} (h : a = a') (h2 : i = i') (k : IntKind) : Ending.returned (.tuple #[.string a, .int k i]) = .returned (.tuple #[.string a', .int k i']) := by rw [h, h2]
end Go.Proofs.Ytikodobglhjoiaa
