/-
  MEMTABLE: the program's table and the document's, side by side.
-/
import Derived.Test.YtikodobglhjoiaaRTab
import Derived.Test.YtikodobglhjoiaaKept
namespace Go.Proofs.Ytikodobglhjoiaa
open Go.RowKit
set_option linter.unusedVariables false

theorem addB_mem {O : List Ent} (hs : sortedE O = true) (e : Ent) : addB O e = !decide (e ∈ O) := by
  by_cases h : e ∈ O
  · obtain ⟨p, hp, he⟩ := List.getElem_of_mem h
    have hpos : posE e O = p := posE_eq (by omega) (fun i hi hip => by
      unfold sortedE at hs
      rw [decide_eq_true_iff, List.pairwise_iff_getElem] at hs
      have := hs i p hi hp hip
      rw [he] at this; exact this) (fun hk => by rw [he]; exact lessE_irr)
    rw [addB_there hpos (by rw [List.getElem?_eq_getElem hp, he])]
    simp [h]
  · rw [addB_not rfl (fun hg => h (List.mem_of_getElem? hg))]
    simp [h]
theorem insE_len {O : List Ent} (hs : sortedE O = true) (e : Ent) : (insE O e).length = if e ∈ O then O.length else O.length + 1 := by
  by_cases h : e ∈ O
  · rw [if_pos h]
    obtain ⟨p, hp, he⟩ := List.getElem_of_mem h
    have hpos : posE e O = p := posE_eq (by omega) (fun i hi hip => by
      unfold sortedE at hs
      rw [decide_eq_true_iff, List.pairwise_iff_getElem] at hs
      have := hs i p hi hp hip
      rw [he] at this; exact this) (fun hk => by rw [he]; exact lessE_irr)
    rw [insE_there hpos (by rw [List.getElem?_eq_getElem hp, he])]
  · rw [if_neg h, insE_at rfl (fun hg => h (List.mem_of_getElem? hg))]
    have := posE_le e O
    simp; omega
theorem own_keep {w w' : World} {base n size : Nat} {e : TypeId} {v : Value} {xs : List Value} (h : w.ownsRow base e size v n xs) (hb : ∀ k, v.ownBlock = some k → w'.heap[k]? = w.heap[k]?) : w'.ownsRow base e size v n xs := by
  refine ⟨h.1, ?_⟩
  rcases h.2 with hn | ⟨g', cap, cur, rfl, hbs, hgg, rest⟩
  · exact .inl hn
  · exact .inr ⟨g', cap, cur, rfl, hbs, (hb g' (by simp [Value.ownBlock])).trans hgg, rest⟩
theorem own_ltP {w : World} {base n size : Nat} {e : TypeId} {v : Value} {xs : List Value} (h : w.ownsRow base e size v n xs) : ∀ k, v.ownBlock = some k → k < w.heap.size := by
  intro k hk
  rcases h.2 with ⟨rfl, _⟩ | ⟨g, cap, cur, rfl, hbs, hgg, _⟩
  · simp [Value.ownBlock] at hk
  · simp [Value.ownBlock] at hk
    subst hk
    exact (Array.getElem?_eq_some_iff.1 hgg).1
theorem types_ne : (25 : TypeId) ≠ 60 ∧ (25 : TypeId) ≠ 51 := ⟨by decide, by decide⟩
/-- Both tables, and nothing older has turned. -/
structure Both (w0 w : World) (g gr : Nat) (vt vr : Value) (O L : List Ent) : Prop where
  t : TabV w w0.heap.size g vt O
  r : RTabV w w0.heap.size gr vr L
  ne : g ≠ gr
  gB : w0.heap.size ≤ g
  grB : w0.heap.size ≤ gr
  apart : ∀ k, vt.ownBlock = some k → vr.ownBlock ≠ some k
  mem : ∀ x, x ∈ O ↔ x ∈ L
  len : O.length = L.length
  below : Below w0.heap.size w0 w
theorem Both.next {w0 w w' : World} {g gr : Nat} {vt vr : Value} {O L : List Ent} (h : Both w0 w g gr vt vr O L) (hb : Below w.heap.size w w') : Both w0 w' g gr vt vr O L :=
  ⟨h.t.next hb, h.r.next hb, h.ne, h.gB, h.grB, h.apart, h.mem, h.len, below_chain h.below hb⟩
theorem Both.sort {w0 w : World} {g gr : Nat} {vt vr : Value} {O L : List Ent} (h : Both w0 w g gr vt vr O L) : sortE L = O :=
  sorted_ext (sortE_sorted _) h.t.2.2.2 fun x => by rw [mem_sortE, h.mem]
/-- Behind the program's Add. -/
structure Half (w0 w : World) (g gr : Nat) (vt vr : Value) (O L : List Ent) : Prop where
  t : TabV w w0.heap.size g vt O
  r : RTabV w w0.heap.size gr vr L
  ne : g ≠ gr
  gB : w0.heap.size ≤ g
  grB : w0.heap.size ≤ gr
  apart : ∀ k, vt.ownBlock = some k → vr.ownBlock ≠ some k
  below : Below w0.heap.size w0 w
theorem below_grownP {B : Nat} {a b c : World} {g : Nat} (h : Below B a b) (hg : b.grownBy c (some g)) (hb : B ≤ b.heap.size) (hB : B ≤ g) : Below B a c :=
  h.grown hg hb (fun k hk => by cases hk; exact hB)
theorem Both.add {w0 w w' : World} {g gr : Nat} {vt vr v' : Value} {O L : List Ent} {e : Ent} (h : Both w0 w g gr vt vr O L) (ht : TabV w' w0.heap.size g v' (insE O e)) (hg : w.grownBy w' (some g)) (hv : v' = vt ∨ ∀ k, v'.ownBlock = some k → w.heap.size ≤ k) :
    Half w0 w' g gr v' vr (insE O e) L := by
  have hr := h.r
  have hblk : ∀ k, vr.ownBlock = some k → w'.heap[k]? = w.heap[k]? := fun k hk => hg.block k (own_ltP hr.2.1 k hk) (fun h9 => by
    rw [Option.some.injEq] at h9
    exact own_other hr.2.1 h.t.1 types_ne.1 k hk h9)
  refine ⟨ht, ⟨hr.1.of_block (hg.block gr hr.1.lt (fun h9 => by cases h9; exact h.ne rfl)), own_keep hr.2.1 hblk, hr.2.2⟩, h.ne, h.gB, h.grB, ?_, below_grownP h.below hg h.below.size h.gB⟩
  intro k hk
  rcases hv with rfl | hv
  · exact h.apart k hk
  · intro h9
    have h1 := hv k hk
    have h2 := own_ltP hr.2.1 k h9
    omega
theorem Half.add {w0 w w' : World} {g gr : Nat} {vt vr v' : Value} {O L : List Ent} {e : Ent} (h : Half w0 w g gr vt vr (insE O e) L) (hs : sortedE O = true) (hm : ∀ x, x ∈ O ↔ x ∈ L) (hl : O.length = L.length) (hr : RTabV w' w0.heap.size gr v' (addL L e)) (hk : Keep2 w w' gr vr.ownBlock) (hv : v'.ownBlock = vr.ownBlock ∨ ∀ k, v'.ownBlock = some k → w.heap.size ≤ k) :
    Both w0 w' g gr vt v' (insE O e) (addL L e) := by
  have ht := h.t
  have hblk : ∀ k, vt.ownBlock = some k → w'.heap[k]? = w.heap[k]? := fun k hk9 => hk.block k (own_ltP ht.2.1 k hk9) (own_other ht.2.1 h.r.1 types_ne.2 k hk9) (fun h9 => h.apart k hk9 h9.symm)
  refine ⟨⟨ht.1.of_block (hk.block g ht.1.lt h.ne (fun h9 => own_other h.r.2.1 ht.1 types_ne.1 g h9.symm rfl)), own_keep ht.2.1 hblk, ht.2.2⟩, hr, h.ne, h.gB, h.grB, ?_, ?_, ?_, ?_⟩
  · intro k hk9
    rcases hv with hv | hv
    · rw [hv]; exact h.apart k hk9
    · intro h9
      have h1 := hv k h9
      have h2 := own_ltP ht.2.1 k hk9
      omega
  · intro x
    rw [mem_insE]
    unfold addL
    split
    · rename_i he
      rw [hm]
      exact ⟨fun h => h.elim (fun h => h ▸ he) id, .inr⟩
    · rw [List.mem_append, List.mem_singleton, hm]
      exact ⟨fun h => h.symm, fun h => h.symm⟩
  · rw [insE_len hs]
    unfold addL
    by_cases he : e ∈ L
    · rw [if_pos he, if_pos ((hm e).2 he), hl]
    · rw [if_neg he, if_neg (fun h => he ((hm e).1 h)), List.length_append, hl]; rfl
  · exact below_chain' h.below hk h.below.size h.grB (fun k hk9 => own_block_ge h.r.2.1 k hk9)
theorem Both.clear {w0 w w' : World} {g gr : Nat} {vt vr : Value} {O L : List Ent} (h : Both w0 w g gr vt vr O L) (ht : TabV w' w0.heap.size g (.slice none 0 0) []) (hg : w.grownBy w' (some g)) :
    Row w' gr 51 [vr] ∧ Both w0 (w'.setCell ⟨gr, 0, none⟩ (.slice none 0 0)) g gr (.slice none 0 0) (.slice none 0 0) [] [] := by
  have hr : Row w' gr 51 [vr] := h.r.1.of_block (hg.block gr h.r.1.lt (fun h9 => by cases h9; exact h.ne rfl))
  refine ⟨hr, ⟨⟨ht.1.far (p := ⟨gr, 0, none⟩) h.ne _, World.ownsRow_nil _ _ _ _, by simp, rfl⟩, ⟨hr.set 0 _, World.ownsRow_nil _ _ _ _, by simp⟩, h.ne, h.gB, h.grB, ?_, by simp, rfl, ?_⟩⟩
  · intro k hk; simp [Value.ownBlock] at hk
  · exact (below_grownP h.below hg h.below.size h.gB).setCell (p := ⟨gr, 0, none⟩) h.grB _
end Go.Proofs.Ytikodobglhjoiaa
