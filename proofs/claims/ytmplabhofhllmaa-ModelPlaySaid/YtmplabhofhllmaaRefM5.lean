/-
  MODEL, the document's: Cut. The plain law.
-/
import Derived.Test.YtmplabhofhllmaaRefM3
namespace Go.Proofs.Ytmplabhofhllmaa
open Go.RowKit
set_option linter.unusedVariables false

def sumN (M : List Nat) (k : Nat) : Nat := (M.take k).foldl (· + ·) 0
theorem sumN_zero (M : List Nat) : sumN M 0 = 0 := by simp [sumN]
theorem sumN_succ {M : List Nat} {k m : Nat} (h : M[k]? = some m) : sumN M (k + 1) = sumN M k + m := by
  unfold sumN
  rw [List.take_add_one, h, List.foldl_append]; rfl
/-- Where the document cuts. -/
def DocOk (T : List Tld) (M : List Nat) (sure : Nat) (l : List Tld) (k : Nat) : Prop := k ≤ M.length ∧ sure ≤ k ∧ sumN M k = l.length ∧ T.take l.length = l
def RefCutNo (w : World) (T : List Tld) (M : List Nat) (sure : Nat) (l : List Tld) (e : Ending) (w' : World) : Prop := e = .returned (.bool false) ∧ (∀ k, ¬ DocOk T M sure l k) ∧ Below w.heap.size w w'
def RefCutYes (w : World) (base g : Nat) (T : List Tld) (M : List Nat) (sure : Nat) (l : List Tld) (e : Ending) (w' : World) : Prop :=
  ∃ k vL vM, e = .returned (.bool true) ∧ DocOk T M sure l k ∧ RefW w' base g vL vM (T.take l.length) (M.take k) k ∧ Keep2 w w' g none
theorem fullG_take {w : World} {base b k m size : Nat} {e : TypeId} {xs : List Value} (hb : base ≤ b) (hr : Row w b e xs) (hk : k * size ≤ xs.length) (hm : k ≤ maxLen) : FullG w base e size (.slice (some ⟨b, 0, none⟩) k k) k (xs.take (k * size)) := by
  have e1 : xs = xs.take (k * size) ++ xs.drop (k * size) := (List.take_append_drop _ _).symm
  rw [e1] at hr
  exact ⟨b, rfl, hb, hr.less, by rw [List.length_take]; omega, hm⟩
theorem ownOr_take {w : World} {base k n size : Nat} {e : TypeId} {A : Option Addr} {c : Nat} {xs : List Value} (h : OwnOr w base e size (.slice A n c) n xs) (hk : k ≤ n) (hn : n ≤ 1000000) : OwnOr w base e size (.slice A k k) k (xs.take (k * size)) := by
  have hks : k * size ≤ n * size := Nat.mul_le_mul_right _ hk
  rcases h with h | ⟨b, hv, hb, hr, hl, -⟩
  · have hl := h.1
    rcases id h.2 with ⟨hv, hx⟩ | ⟨b, cap, cur, hv, hbb, -⟩
    · obtain ⟨rfl, h0, rfl⟩ := Value.slice.inj hv
      have hk0 : k = 0 := by omega
      subst hk0
      rw [Nat.zero_mul, List.take_zero]
      exact .inl (World.ownsRow_nil _ _ _ _)
    · obtain ⟨rfl, -, rfl⟩ := Value.slice.inj hv
      exact .inr (fullG_take (m := 0) hbb (own_row h (by simp [Value.ownBlock])) (by omega) (by unfold maxLen; omega))
  · obtain ⟨rfl, -, rfl⟩ := Value.slice.inj hv
    exact .inr (fullG_take (m := 0) hb hr (by omega) (by unfold maxLen; omega))
theorem toldsC_take (T : List Tld) (k : Nat) : (toldsC T).take (k * 5) = toldsC (T.take k) := by
  induction T generalizing k with
  | nil => simp [toldsC]
  | cons t T ih =>
    cases k with
    | zero => simp [toldsC]
    | succ k =>
      rw [List.take_succ_cons]
      show (toldC t ++ toldsC T).take ((k + 1) * 5) = toldC t ++ toldsC (T.take k)
      rw [← ih, show (k + 1) * 5 = (toldC t).length + k * 5 from by rw [toldC_len]; omega, List.take_length_add_append]
theorem natsC_take (M : List Nat) (k : Nat) : (natsC M).take (k * 1) = natsC (M.take k) := by unfold natsC; rw [Nat.mul_one, List.map_take]
/-- Behind the stores. -/
theorem ref_cut {w wo : World} {base g k a : Nat} {A A' : Option Addr} {c c' : Nat} {T : List Tld} {M : List Nat} {sure : Nat} (H : RefW w base g (.slice A T.length c) (.slice A' M.length c') T M sure) (hb : Below w.heap.size w wo) (hk : k ≤ M.length) (ha : a ≤ T.length) (hT : T.length ≤ 1000000) (hM : M.length ≤ 1000000) :
    RefW (((wo.setCell ⟨g, 0, none⟩ (.slice A a a)).setCell ⟨g, 1, none⟩ (.slice A' k k)).setCell ⟨g, 2, none⟩ (.int .i64 (k : Int))) base g (.slice A a a) (.slice A' k k) (T.take a) (M.take k) k ∧
      Keep2 w (((wo.setCell ⟨g, 0, none⟩ (.slice A a a)).setCell ⟨g, 1, none⟩ (.slice A' k k)).setCell ⟨g, 2, none⟩ (.int .i64 (k : Int))) g none := by
  have h8 := H.next hb
  have hfar : ∀ q, q ≠ g → (((wo.setCell ⟨g, 0, none⟩ (.slice A a a)).setCell ⟨g, 1, none⟩ (.slice A' k k)).setCell ⟨g, 2, none⟩ (.int .i64 (k : Int))).heap[q]? = wo.heap[q]? := fun q hq => by
    rw [Below.heap_setCell _ _ _ _ hq, Below.heap_setCell _ _ _ _ hq, Below.heap_setCell _ _ _ _ hq]
  have hne : ∀ q e xs, Row wo q e xs → e ≠ 31 → q ≠ g := fun q e xs hr hne h9 => by
    subst h9
    exact hne (row_types hr h8.1)
  refine ⟨⟨((h8.1.set 0 _).set 1 _).set 2 _, H.2.1, ?_, ?_, fun t ht => H.2.2.2.2 t (List.mem_of_mem_take ht)⟩, Keep2.trans (Keep2.of_below hb g none) (Keep2.trans (Keep2.of_set 0 _ _) (Keep2.trans (Keep2.of_set 1 _ _) (Keep2.of_set 2 _ _)))⟩
  · have h1 := ownOr_take h8.2.2.1 ha hT
    rw [toldsC_take] at h1
    rw [show (T.take a).length = a from by rw [List.length_take]; omega]
    exact h1.keep fun q hq => hfar q (hne q _ _ (h1.row hq).1 types_neF.1)
  · have h1 := ownOr_take h8.2.2.2.1 hk hM
    rw [natsC_take] at h1
    rw [show (M.take k).length = k from by rw [List.length_take]; omega]
    exact h1.keep fun q hq => hfar q (hne q _ _ (h1.row hq).1 types_neF.2.1)
end Go.Proofs.Ytmplabhofhllmaa
