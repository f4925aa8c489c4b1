/-
  LISTS OF ENTRIES: how they lie in memory.
-/
import Derived.Test.YtikodobglhjoiaaEntEq
namespace Go.Proofs.Ytikodobglhjoiaa
open Go.RowKit
set_option linter.unusedVariables false

def entL (e : Ent) : List Value := [.int .u64 e.1, .int .i64 e.2.1, .int .i64 e.2.2]
def entsC (l : List Ent) : List Value := l.flatMap entL
@[simp, go_sem] theorem length_entsC (l : List Ent) : (entsC l).length = l.length * 3 := by
  induction l with
  | nil => rfl
  | cons e l ih => simp only [entsC, List.flatMap_cons, List.length_append] at ih ⊢; rw [ih]; simp [entL]; omega
theorem entsC_get (l : List Ent) (i k : Nat) (hi : i < l.length) (hk : k < 3) : (entsC l)[i * 3 + k]? = (entL l[i])[k]? := by
  induction l generalizing i with
  | nil => simp at hi
  | cons e l ih =>
    unfold entsC
    rw [List.flatMap_cons]
    cases i with
    | zero => rw [List.getElem?_append_left (by simp [entL]; omega)]; simp
    | succ i =>
      rw [List.getElem?_append_right (by simp [entL]; omega)]
      have := ih i (by simpa using hi)
      unfold entsC at this
      simp only [List.getElem_cons_succ]
      rw [← this]
      congr 1
      simp [entL]; omega
def Ents (w : World) (v : Value) (l : List Ent) : Prop := Reads w v 3 l.length (entsC l) ∧ ∀ e ∈ l, okE e
theorem Ents.next {w w' : World} {v : Value} {l : List Ent} (h : Ents w v l) (hb : Below w.heap.size w w') : Ents w' v l := ⟨h.1.next hb, h.2⟩
/-- The cells of each entry, now and later. -/
theorem Ents.cells {w : World} {A : Option Addr} {n c : Nat} {l : List Ent} (h : Ents w (.slice A n c) l) : n = l.length ∧ n ≤ c ∧ c ≤ maxLen ∧ (0 < l.length → ∃ b off, A = some ⟨b, off, none⟩ ∧ b < w.heap.size ∧
    ∀ (i : Nat) (hi : i < l.length) (w' : World), Below w.heap.size w w' → w'.cell? ⟨b, off + i * 3, none⟩ = some (.int .u64 l[i].1) ∧ w'.cell? ⟨b, off + i * 3 + 1, none⟩ = some (.int .i64 l[i].2.1) ∧ w'.cell? ⟨b, off + i * 3 + 2, none⟩ = some (.int .i64 l[i].2.2)) := by
  obtain ⟨⟨A', c', hv, h1, h2, hl, hc⟩, hok⟩ := h
  obtain ⟨rfl, rfl, rfl⟩ := Value.slice.inj hv
  refine ⟨rfl, h1, h2, fun h0 => ?_⟩
  obtain ⟨b, off, hA, hlt, hcell⟩ := hc h0
  refine ⟨b, off, hA, hlt, fun i hi w' hb => ?_⟩
  have h : ∀ k, (hk : k < 3) → w'.cell? ⟨b, off + (i * 3 + k), none⟩ = (entL l[i])[k]? := fun k hk => by
    rw [hb.cell (p := ⟨b, off + (i * 3 + k), none⟩) hlt, hcell (i * 3 + k) (by simp; omega), ← entsC_get l i k hi hk, List.getElem?_eq_getElem]
  refine ⟨?_, ?_, ?_⟩
  · simpa [entL] using h 0 (by omega)
  · simpa [entL, Nat.add_assoc] using h 1 (by omega)
  · simpa [entL, Nat.add_assoc] using h 2 (by omega)

theorem take_eq_succ {a b : List Ent} {k : Nat} (h : a.take k = b.take k) (ha : k < a.length) (hb : k < b.length) (he : a[k] = b[k]) : a.take (k + 1) = b.take (k + 1) := by
  rw [List.take_add_one, List.take_add_one, h, List.getElem?_eq_getElem ha, List.getElem?_eq_getElem hb, he]

set_option maxHeartbeats 400000 in
theorem law_SameE (va vb : Value) (a b : List Ent) (w : World) (ha : Ents w va a) (hb : Ents w vb b) :
    Calls Try.prog 21 #[va, vb] w fun e w' => e = .returned (.bool (decide (a = b))) ∧ Below w.heap.size w w' := by
  obtain ⟨⟨A, c, rfl, -, -, -, -⟩, -⟩ := id ha
  obtain ⟨⟨B, d, rfl, -, -, -, -⟩, -⟩ := id hb
  obtain ⟨-, ha1, ha2, ha3⟩ := ha.cells
  obtain ⟨-, hb1, hb2, hb3⟩ := hb.cells
  unfold maxLen at ha2 hb2
  by_cases hl : a.length = b.length
  · rcases Nat.eq_zero_or_pos a.length with h0 | h0
    · have hb0 : b.length = 0 := by omega
      obtain rfl := List.eq_nil_of_length_eq_zero h0
      obtain rfl := List.eq_nil_of_length_eq_zero hb0
      go_enter Try.func21, Try.ntmps21
      go_wp2_with fail
      go_loopw [5] (fun i wr => i = .int .i64 0 ∧ Below w.heap.size w wr) (fun i _ => 0)
      case atStart => exact ⟨rfl, Below.refl _ _⟩
      case round =>
        obtain ⟨rfl, hbr⟩ := hrel
        go_wp2
        go_ret
        exact ⟨by simp, hbr⟩
    · obtain ⟨ba, oa, rfl, hla, hca⟩ := ha3 h0
      obtain ⟨bb, ob, rfl, hlb, hcb⟩ := hb3 (by omega)
      obtain ⟨n, hn⟩ : ∃ n, n = a.length := ⟨_, rfl⟩
      have hnb : b.length = n := by omega
      have hw1 : ∀ k : Nat, k < a.length → IntKind.i64.wrap ((k : Int) + 1) = k + 1 := fun k h => by rw [IntKind.wrap_i64]; omega
      rw [hnb, ← hn]
      rw [← hn] at ha1 h0 hw1
      rw [hnb] at hb1
      clear ha3 hb3 ha hb hl
      have Hn := Lib.hid hn
      have Hnb := Lib.hid hnb
      clear hn hnb
      go_enter Try.func21, Try.ntmps21
      go_wp2_with fail
      go_loopw [5] (fun i wr => ∃ k : Nat, k ≤ n ∧ i = .int .i64 k ∧ a.take k = b.take k ∧ Below w.heap.size w wr) (fun i _ => n - (intOf i).toNat)
      case atStart => exact ⟨0, Nat.zero_le _, rfl, by simp, Below.refl _ _⟩
      case round =>
        obtain ⟨k, hk, rfl, hp, hbr⟩ := hrel
        by_cases hlt : k < n
        · have g1 := hca k (by have := Hn.out; omega) wr hbr
          have g2 := hcb k (by have := Hnb.out; omega) wr hbr
          clear hca hcb
          generalize hea : a[k]'(by have := Hn.out; omega) = ea at g1
          generalize heb : b[k]'(by have := Hnb.out; omega) = eb at g2
          obtain ⟨a1, a2, a3⟩ := g1
          obtain ⟨b1, b2, b3⟩ := g2
          obtain ⟨x1, x2, x3⟩ := ea
          obtain ⟨y1, y2, y3⟩ := eb
          simp only [] at a1 a2 a3 b1 b2 b3
          by_cases heq : x1 = y1 ∧ x2 = y2 ∧ x3 = y3
          · obtain ⟨rfl, rfl, rfl⟩ := heq
            go_wp2_with fail
            go_quiet (fail)
            go_wp2
            go_roundw
            case rel => exact ⟨k + 1, by omega, by go_num, take_eq_succ hp (by have := Hn.out; omega) (by have := Hnb.out; omega) (hea.trans heb.symm), below_drewN hbr _⟩
            case measure => simp [intOf]; omega
          · have hne : (!decide (x1 = y1) || (!decide (x2 = y2) || !decide (x3 = y3))) = true := by
              simp; omega
            have hab : decide (a = b) = false := decide_eq_false (fun h => heq (by
              subst h
              have := hea.symm.trans heb
              simpa using this))
            go_wp2_with fail
            go_quiet (fail)
            go_wp2
            go_ret
            exact ⟨by rw [hab]; rfl, below_drewN hbr _⟩
        · obtain rfl : k = n := by omega
          have hab : decide (a = b) = true := decide_eq_true (by
            rw [List.take_of_length_le (by have := Hn.out; omega), List.take_of_length_le (by have := Hnb.out; omega)] at hp
            exact hp)
          clear hca hcb
          go_wp2
          go_ret
          exact ⟨by rw [hab]; rfl, hbr⟩
  · have hab : decide (a = b) = false := decide_eq_false (fun h => hl (by rw [h]))
    rw [hab]
    have h' : ¬ (a.length : Int) = b.length := by omega
    go_enter Try.func21, Try.ntmps21
    go_wp2
    go_ret
    exact ⟨rfl, Below.refl _ _⟩
end Go.Proofs.Ytikodobglhjoiaa
