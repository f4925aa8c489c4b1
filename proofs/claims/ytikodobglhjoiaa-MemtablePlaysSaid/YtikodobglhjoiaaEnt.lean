/-
  ENTRIES: what they are here, how two of them stand to each other: the program's Less and ahead, the reference's Less.
-/
import Derived.Test.YtikodobglhjoiaaSums
import Derived.Test.YtikodobglhjoiaaRegion
namespace Go.Proofs.Ytikodobglhjoiaa
open Go.RowKit
set_option linter.unusedVariables false

/-- An entry: its hash, its version, where it lies. -/
abbrev Ent := Nat × Int × Int
def okE (e : Ent) : Prop := e.1 < 18446744073709551616 ∧ (-9223372036854775808 ≤ e.2.1 ∧ e.2.1 ≤ 9223372036854775807) ∧ (-9223372036854775808 ≤ e.2.2 ∧ e.2.2 ≤ 9223372036854775807)
def entC (e : Ent) : Array Value := #[.int .u64 e.1, .int .i64 e.2.1, .int .i64 e.2.2]
def lessE (a b : Ent) : Bool := decide (a.1 < b.1 ∨ a.1 = b.1 ∧ (a.2.1 < b.2.1 ∨ a.2.1 = b.2.1 ∧ a.2.2 < b.2.2))
def aheadE (a : Ent) (h : Nat) (v : Int) : Bool := decide (a.1 < h ∨ a.1 = h ∧ a.2.1 < v)

theorem lit2_below (w : World) (o o' : Obj) : Below w.heap.size w ((w.alloc o).alloc o') := have h1 := (Below.refl w.heap.size w).alloc (Nat.le_refl _) o
  h1.alloc h1.size _
theorem ret_b {a b : Bool} (h : a = b) : Ending.returned (.bool a) = .returned (.bool b) := by rw [h]

theorem entries_Less (a b : Ent) (w : World) (ha : okE a) (hb : okE b) :
    Calls Try.prog 30 #[.agg (entC a), .agg (entC b)] w fun e w' => e = .returned (.bool (lessE a b)) ∧ Below w.heap.size w w' := by
  obtain ⟨a1, a2, a3⟩ := a
  obtain ⟨b1, b2, b3⟩ := b
  obtain ⟨ha1, ha2, ha3⟩ := ha
  obtain ⟨hb1, hb2, hb3⟩ := hb
  simp only [] at ha1 ha2 ha3 hb1 hb2 hb3
  unfold entC lessE
  dsimp only
  go_enter Try.func30, Try.ntmps30
  by_cases h1 : a1 = b1
  · subst h1
    by_cases h2 : a2 = b2
    · subst h2
      go_wp2
      go_ret
      exact ⟨ret_b (by simp), lit2_below _ _ _⟩
    · go_wp2
      go_ret
      exact ⟨ret_b (by simp [h2]), lit2_below _ _ _⟩
  · have h1' : ¬ (a1 : Int) = b1 := by omega
    go_wp2
    go_ret
    exact ⟨ret_b (by simp [h1]), lit2_below _ _ _⟩
theorem entries_ahead (a : Ent) (h : Nat) (v : Int) (w : World) (ha : okE a) (hh : h < 18446744073709551616) (hv : -9223372036854775808 ≤ v ∧ v ≤ 9223372036854775807) :
    Calls Try.prog 53 #[.agg (entC a), .int .u64 h, .int .i64 v] w fun e w' => e = .returned (.bool (aheadE a h v)) ∧ Below w.heap.size w w' := by
  obtain ⟨a1, a2, a3⟩ := a
  obtain ⟨ha1, ha2, ha3⟩ := ha
  simp only [] at ha1 ha2 ha3
  unfold entC aheadE
  dsimp only
  go_enter Try.func53, Try.ntmps53
  by_cases h1 : (a1 : Int) < h
  · have h2 : ¬ (a1 : Int) = h := by omega
    go_wp2
    go_ret
    exact ⟨ret_b (by simp; omega), (Below.refl _ _).alloc (Nat.le_refl _) _⟩
  · by_cases h2 : a1 = h
    · subst h2
      go_wp2
      go_ret
      exact ⟨ret_b (by simp), (Below.refl _ _).alloc (Nat.le_refl _) _⟩
    · have h2' : ¬ (a1 : Int) = h := by omega
      go_wp2
      go_ret
      exact ⟨ret_b (by simp; omega), (Below.refl _ _).alloc (Nat.le_refl _) _⟩
theorem ref_Less (a b : Ent) (w : World) (ha : okE a) (hb : okE b) :
    Calls Try.prog 31 #[.agg (entC a), .agg (entC b)] w fun e w' => e = .returned (.bool (lessE a b)) ∧ Below w.heap.size w w' := by
  obtain ⟨a1, a2, a3⟩ := a
  obtain ⟨b1, b2, b3⟩ := b
  obtain ⟨ha1, ha2, ha3⟩ := ha
  obtain ⟨hb1, hb2, hb3⟩ := hb
  simp only [] at ha1 ha2 ha3 hb1 hb2 hb3
  unfold entC lessE
  dsimp only
  go_enter Try.func31, Try.ntmps31
  by_cases h1 : (a1 : Int) < b1
  · have h1' : ¬ (a1 : Int) = b1 := by omega
    go_wp2
    go_ret
    exact ⟨ret_b (by simp; omega), lit2_below _ _ _⟩
  · by_cases h2 : a1 = b1
    · subst h2
      by_cases h3 : a2 < b2
      · go_wp2
        go_ret
        exact ⟨ret_b (by simp [h3]), lit2_below _ _ _⟩
      · by_cases h4 : a2 = b2
        · subst h4
          go_wp2
          go_ret
          exact ⟨ret_b (by simp), lit2_below _ _ _⟩
        · go_wp2
          go_ret
          exact ⟨ret_b (by simp [h3, h4]), lit2_below _ _ _⟩
    · have h2' : ¬ (a1 : Int) = b1 := by omega
      go_wp2
      go_ret
      exact ⟨ret_b (by simp; omega), lit2_below _ _ _⟩

end Go.Proofs.Ytikodobglhjoiaa
