/-
  MODEL, the document's: one that may be written; Append.
-/
import Derived.Test.YtmplabhofhllmaaRefM2
import Derived.Test.YtmplabhofhllmaaMod6
namespace Go.Proofs.Ytmplabhofhllmaa
open Go.RowKit
set_option linter.unusedVariables false

def FullG (w : World) (base : Nat) (e : TypeId) (size : Nat) (v : Value) (n : Nat) (xs : List Value) : Prop := ∃ b, v = .slice (some ⟨b, 0, none⟩) n n ∧ base ≤ b ∧ Row w b e xs ∧ xs.length = n * size ∧ n ≤ maxLen
def OwnOr (w : World) (base : Nat) (e : TypeId) (size : Nat) (v : Value) (n : Nat) (xs : List Value) : Prop := w.ownsRow base e size v n xs ∨ FullG w base e size v n xs
theorem OwnOr.reads {w : World} {base size n : Nat} {e : TypeId} {v : Value} {xs : List Value} (h : OwnOr w base e size v n xs) : Reads w v size n xs := by
  rcases h with h | ⟨b, rfl, h2, h3, h4, h5⟩
  · exact Reads.of_own h
  · exact Reads.of_row h3 h4 (Nat.le_refl _) h5
theorem OwnOr.row {w : World} {base size n k : Nat} {e : TypeId} {v : Value} {xs : List Value} (h : OwnOr w base e size v n xs) (hk : v.ownBlock = some k) : Row w k e xs ∧ base ≤ k := by
  rcases h with h | ⟨b, rfl, h2, h3, h4, h5⟩
  · exact ⟨own_row h hk, own_block_ge h k hk⟩
  · simp [Value.ownBlock] at hk
    subst hk
    exact ⟨h3, h2⟩
theorem OwnOr.keep {w w' : World} {base size n : Nat} {e : TypeId} {v : Value} {xs : List Value} (h : OwnOr w base e size v n xs) (hb : ∀ k, v.ownBlock = some k → w'.heap[k]? = w.heap[k]?) : OwnOr w' base e size v n xs := by
  rcases h with h | ⟨b, rfl, h2, h3, h4, h5⟩
  · exact .inl (own_keepR h hb)
  · exact .inr ⟨b, rfl, h2, h3.of_block (hb b (by simp [Value.ownBlock])), h4, h5⟩
theorem OwnOr.next {w w' : World} {base size n : Nat} {e : TypeId} {v : Value} {xs : List Value} (h : OwnOr w base e size v n xs) (hb : Below w.heap.size w w') : OwnOr w' base e size v n xs :=
  h.keep fun k hk => hb.block k (h.row hk).1.lt
/-- The document's model: to be written. -/
def RefW (w : World) (base g : Nat) (vL vM : Value) (T : List Tld) (M : List Nat) (sure : Nat) : Prop :=
  Row w g 31 [vL, vM, .int .i64 (sure : Nat)] ∧ base ≤ g ∧ OwnOr w base 48 5 vL T.length (toldsC T) ∧ OwnOr w base 3 1 vM M.length (natsC M) ∧ ∀ t ∈ T, okT t
theorem RefW.next {w w' : World} {base g : Nat} {vL vM : Value} {T : List Tld} {M : List Nat} {sure : Nat} (h : RefW w base g vL vM T M sure) (hb : Below w.heap.size w w') : RefW w' base g vL vM T M sure :=
  ⟨h.1.next hb, h.2.1, h.2.2.1.next hb, h.2.2.2.1.next hb, h.2.2.2.2⟩
theorem RefW.r {w : World} {base g : Nat} {vL vM : Value} {T : List Tld} {M : List Nat} {sure : Nat} (h : RefW w base g vL vM T M sure) : RefR w g vL vM T M sure :=
  ⟨h.1, ⟨h.2.2.1.reads, h.2.2.2.2⟩, h.2.2.2.1.reads⟩
theorem types_neF : (48 : TypeId) ≠ 31 ∧ (3 : TypeId) ≠ 31 ∧ (3 : TypeId) ≠ 48 := ⟨by decide, by decide, by decide⟩
def RowG (w : World) (base : Nat) (e : TypeId) (size : Nat) (v : Value) (n : Nat) (xs : List Value) (r : Option Nat) : Prop := r = none ∨ (r = v.ownBlock ∧ w.ownsRow base e size v n xs)
theorem RowG.ne {w : World} {base size n : Nat} {e : TypeId} {v : Value} {xs : List Value} {r : Option Nat} (h : RowG w base e size v n xs r) {k : Nat} {t : TypeId} {ys : List Value} (hr : Row w k t ys) (hne : e ≠ t) : some k ≠ r := by
  rcases h with rfl | ⟨rfl, h⟩
  · exact fun h => by cases h
  · exact fun h9 => own_other h hr hne k h9.symm rfl
theorem RowG.next {w w' : World} {base size n : Nat} {e : TypeId} {v : Value} {xs : List Value} {r : Option Nat} (h : RowG w base e size v n xs r) (hb : Below w.heap.size w w') : RowG w' base e size v n xs r := by
  rcases h with rfl | ⟨rfl, h⟩
  · exact .inl rfl
  · exact .inr ⟨rfl, own_next h hb⟩
theorem keep_grown {wr wx w2 : World} {g : Nat} {v : Value} {r : Option Nat} {base size n : Nat} {e : TypeId} {xs : List Value} (hr : RowG wr base e size v n xs r) (hb : Below wr.heap.size wr wx) (hg : wx.grownBy w2 r) (j : Nat) (u : Value) : Keep2 wr (w2.setCell ⟨g, j, none⟩ u) g v.ownBlock := by
  refine Keep2.trans (Keep2.of_below hb g v.ownBlock) (Keep2.trans ?_ (Keep2.of_set j _ _))
  rcases hr with rfl | ⟨rfl, -⟩
  · exact ⟨hg.os, hg.tape, hg.output, hg.size, fun k hk _ _ => hg.block k hk (by simp)⟩
  · exact Keep2.of_grown hg g
theorem set_far {w : World} {g k : Nat} {t e : TypeId} {xs ys : List Value} (hr : Row w g t xs) (h2 : Row w k e ys) (hne : e ≠ t) (j : Nat) (u : Value) : (w.setCell ⟨g, j, none⟩ u).heap[k]? = w.heap[k]? :=
  Below.heap_setCell _ _ _ _ (fun h9 => by
    have h9' : k = g := h9
    subst h9'
    exact hne (row_types h2 hr))
/-- One event more. -/
theorem ref_step {wr wx w2 : World} {base g : Nat} {vL vM v2 : Value} {T : List Tld} {M : List Nat} {sure : Nat} {t : Tld} {r : Option Nat} (h : RefW wr base g vL vM T M sure) (hr : RowG wr base 48 5 vL T.length (toldsC T) r) (hb : Below wr.heap.size wr wx) (hg : wx.grownBy w2 r)
    (hown : w2.ownsRow base 48 5 v2 (T.length + 1) (toldsC T ++ toldsC [t])) (ht : okT t) : RefW (w2.setCell ⟨g, 0, none⟩ v2) base g v2 vM (T ++ [t]) M sure := by
  have hx := h.next hb
  have hrx := hr.next hb
  have hrow : Row w2 g 31 [vL, vM, .int .i64 (sure : Nat)] := hx.1.grown hg (hrx.ne hx.1 types_neF.1)
  refine ⟨hrow.set 0 v2, h.2.1, .inl ?_, ?_, fun x hx9 => ?_⟩
  · rw [List.length_append, toldsC_append]
    exact own_keepR hown (fun k hk => set_far hrow (own_row hown hk) types_neF.1 0 v2)
  · have h3 : OwnOr w2 base 3 1 vM M.length (natsC M) := hx.2.2.2.1.keep fun k hk => hg.block k (hx.2.2.2.1.row hk).1.lt (hrx.ne (hx.2.2.2.1.row hk).1 (fun h => types_neF.2.2 h.symm))
    exact h3.keep fun k hk => set_far hrow (h3.row hk).1 types_neF.2.1 0 v2
  · rcases List.mem_append.1 hx9 with h9 | h9
    · exact h.2.2.2.2 x h9
    · rw [List.mem_singleton.1 h9]; exact ht
/-- One count more. -/
theorem ref_count {wr wx w2 : World} {base g : Nat} {vL vM v2 : Value} {T : List Tld} {M : List Nat} {sure m : Nat} {r : Option Nat} (h : RefW wr base g vL vM T M sure) (hr : RowG wr base 3 1 vM M.length (natsC M) r) (hb : Below wr.heap.size wr wx) (hg : wx.grownBy w2 r)
    (hown : w2.ownsRow base 3 1 v2 (M.length + 1) (natsC M ++ natsC [m])) : RefW (w2.setCell ⟨g, 1, none⟩ v2) base g vL v2 T (M ++ [m]) sure := by
  have hx := h.next hb
  have hrx := hr.next hb
  have hrow : Row w2 g 31 [vL, vM, .int .i64 (sure : Nat)] := hx.1.grown hg (hrx.ne hx.1 types_neF.2.1)
  refine ⟨hrow.set 1 v2, h.2.1, ?_, .inl ?_, h.2.2.2.2⟩
  · have h3 : OwnOr w2 base 48 5 vL T.length (toldsC T) := hx.2.2.1.keep fun k hk => hg.block k (hx.2.2.1.row hk).1.lt (hrx.ne (hx.2.2.1.row hk).1 types_neF.2.2)
    exact h3.keep fun k hk => set_far hrow (h3.row hk).1 types_neF.1 1 v2
  · rw [List.length_append, show natsC (M ++ [m]) = natsC M ++ natsC [m] from by simp [natsC]]
    exact own_keepR hown (fun k hk => set_far hrow (own_row hown hk) types_neF.2.1 1 v2)
theorem Keep2.trans' {a b c : World} {g : Nat} {o o' : Option Nat} (h1 : Keep2 a b g o) (h2 : Keep2 b c g o') (ho : o' = o ∨ ∀ k, o' = some k → a.heap.size ≤ k) : Keep2 a c g o :=
  ⟨h2.os.trans h1.os, h2.tape.trans h1.tape, h2.output.trans h1.output, Nat.le_trans h1.size h2.size, fun k hk hg hb => (h2.block k (Nat.lt_of_lt_of_le hk h1.size) hg (fun h9 => by
    rcases ho with rfl | ho
    · exact hb h9
    · have := ho k h9.symm; omega)).trans (h1.block k hk hg hb)⟩
theorem infoInt : (Try.prog.info? 3).map (fun i => (i.zero, i.size, i.bytes)) = some (some (.int .i64 0), 1, 8) := by kernel_rfl
theorem natsC_one (M : List Nat) : ∀ u ∈ natsC M, u.oneCell' = true := by
  intro u hu
  obtain ⟨n, -, rfl⟩ := List.mem_map.1 hu
  rfl
theorem count_lit (w : World) (m : Nat) : Reads (w.alloc (.cells #[.int .i64 (m : Int)] 3)) (.slice (some ⟨w.heap.size, 0, none⟩) 1 1) 1 1 (natsC [m]) :=
  Reads.of_row (size := 1) (n := 1) (cap := 1) (Row.new w #[.int .i64 (m : Int)] 3) rfl (Nat.le_refl _) (by unfold maxLen; omega)
end Go.Proofs.Ytmplabhofhllmaa
