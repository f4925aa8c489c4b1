/-
  BATCHES: what a batch made of its events' bits hangs on: one block of its own.
-/
import Derived.Test.YtiojapjidgjaoaaOpenBat
import Derived.Test.YtiojapjidgjaoaaBatched
import Derived.Deep.RegionHeldLaw
namespace Go.Proofs.Ytiojapjidgjaoaa
open Go.RowKit
set_option linter.unusedVariables false

/-- One block, base or above, says all of the batch. -/
def Local (base : Nat) (w : World) (v : Value) (b : Bat) : Prop := ∃ k, base ≤ k ∧ k < w.heap.size ∧ ∀ w' : World, w'.heap[k]? = w.heap[k]? → BatV w' v b
theorem own_local {w w' : World} {base size n : Nat} {e : TypeId} {v : Value} {xs : List Value} {g : Nat} (h : w.ownsRow base e size v n xs) (hg : v.ownBlock = none ∨ v.ownBlock = some g) (hb : w'.heap[g]? = w.heap[g]?) : w'.ownsRow base e size v n xs := by
  refine ⟨h.1, ?_⟩
  rcases h.2 with hn | ⟨g', cap, cur, rfl, hbs, hgg, rest⟩
  · exact .inl hn
  · obtain rfl : g' = g := by
      rcases hg with h | h
      · simp [Value.ownBlock] at h
      · simpa [Value.ownBlock] using h
    exact .inr ⟨g', cap, cur, rfl, hbs, hb.trans hgg, rest⟩
theorem batV_local {w : World} {base base' : Nat} {b : Bat} {A : Option Addr} {c : Nat} (h : w.ownsRow base 28 3 (.slice A b.2.2.length c) b.2.2.length (b.2.2.flatMap evL)) (h1 : base' ≤ base) (h2 : base' < w.heap.size) (ho : ∀ e ∈ b.2.2, okV e) (hs : b.1.size ≤ maxLen) (hf : -9223372036854775808 ≤ b.2.1 ∧ b.2.1 ≤ 9223372036854775807) :
    Local base' w (.agg #[.string b.1, .int .i64 b.2.1, .slice A b.2.2.length c]) b := by
  rcases hA : (Value.slice A b.2.2.length c).ownBlock with _ | g
  · exact ⟨base', Nat.le_refl _, h2, fun w' hw => ⟨A, c, rfl, ⟨Reads.of_own (own_local h (.inl hA) hw), ho⟩, hs, hf⟩⟩
  · refine ⟨g, Nat.le_trans h1 (own_block_ge h g hA), ?_, fun w' hw => ⟨A, c, rfl, ⟨Reads.of_own (own_local h (.inr hA) hw), ho⟩, hs, hf⟩⟩
    rcases h.2 with ⟨h3, -⟩ | ⟨g', cap, cur, h3, -, hgg, -⟩
    · rw [h3] at hA; simp [Value.ownBlock] at hA
    · rw [h3] at hA
      simp [Value.ownBlock] at hA
      subst hA
      exact (Array.getElem?_eq_some_iff.1 hgg).1
set_option maxHeartbeats 1000000 in
theorem rawB_BatchK (v : Value) (b : Bat) (w : World) (h : RawB w v b) (hn : b.2.2.length ≤ 1000000) :
    Calls Try.prog 30 #[v] w fun e w' => ∃ A' c', e = .returned (.agg #[.string b.1, .int .i64 b.2.1, .slice A' b.2.2.length c']) ∧ Local w.heap.size w' (.agg #[.string b.1, .int .i64 b.2.1, .slice A' b.2.2.length c']) b ∧ Below w.heap.size w w' := by
  obtain ⟨s, f, l⟩ := b
  obtain ⟨A, c, rfl, hE, hs, hf1, hf2⟩ := h
  simp only [] at hE hs hf1 hf2 hn ⊢
  have hz := lit2_below' w (.cells #[.string s, .int .i64 f, .slice A l.length c] 47) (.cells #[.string ⟨#[]⟩, .int .i64 0, .slice none 0 0] 49)
  have hbox := fun w' hb => box3 w (.string s) (.int .i64 f) (.slice A l.length c) 47 w' (below_chain (lit_below _ (.cells #[.string ⟨#[]⟩, .int .i64 0, .slice none 0 0] 49)) hb)
  have hrow := Row.new (w.alloc (.cells #[.string s, .int .i64 f, .slice A l.length c] 47)) #[.string ⟨#[]⟩, .int .i64 0, .slice none 0 0] 49
  have hsz : (w.alloc (.cells #[.string s, .int .i64 f, .slice A l.length c] 47)).heap.size = w.heap.size + 1 := by simp
  rw [hsz] at hrow
  go_enter Try.func30, Try.ntmps30
  go_wp2_with fail
  clear hsz
  generalize (w.alloc (.cells #[.string s, .int .i64 f, .slice A l.length c] 47)).alloc (.cells #[.string ⟨#[]⟩, .int .i64 0, .slice none 0 0] 49) = w0 at hz hbox hrow ⊢
  have hla := fun w' (hb : Below w0.heap.size w0 w') => law_AllE _ l w' (hE.next (below_chain hz hb)) hn
  have HS := Lib.hid (show ∀ w', Below w0.heap.size w0 w' → w'.cell? ⟨w.heap.size, 0, none⟩ = some (.string s) ∧ w'.cell? ⟨w.heap.size, 1, none⟩ = some (.int .i64 f) ∧ w'.cell? ⟨w.heap.size, 2, none⟩ = some (.slice A l.length c) from fun w' hb => hbox w' hb)
  have HR := Lib.hid (fun w' (hb : Below w0.heap.size w0 w') => hrow.next hb)
  have Hla := Lib.hid hla
  clear hbox hrow hla hE
  go_region_held3 (fun w' => w'.cell? ⟨w.heap.size, 0, none⟩ = some (.string s) ∧ w'.cell? ⟨w.heap.size, 1, none⟩ = some (.int .i64 f) ∧ w'.cell? ⟨w.heap.size, 2, none⟩ = some (.slice A l.length c))
    (first | (exact HS.out _ (below_chain (Below.refl _ _).drew hb2)) | (exact HS.out _ (Below.refl _ _).drew) | (obtain ⟨k0, k1, k2⟩ := HS.out _ (below_chain (Below.refl _ _).drew hb2); simp [k0, k1, k2, World.cell?_setCell_far]) | fail)
    (first | (go_at_call 24; refine (Hla.out _ (Below.refl _ _).drew).mono ?_; rintro e w2 ⟨A2, c2, rfl, ⟨hown2, hE2⟩, hb2⟩; have hr2 := HR.out w2 (below_chain (Below.refl _ _).drew hb2); have r0 := hr2.cell 0 (by simp); have r1 := hr2.cell 1 (by simp); have r2 := hr2.cell 2 (by simp); have f0 := hr2.frozen 0 (by simp); have f1 := hr2.frozen 1 (by simp); have f2 := hr2.frozen 2 (by simp); simp only [List.getElem_cons_zero, List.getElem_cons_succ] at r0 r1 r2))
  all_goals
    have hB2 := below_chain hz (below_chain (Below.refl _ _).drew hb2)
    have hlt : w.heap.size + 1 < w0.drew.heap.size := (HR.out _ (Below.refl _ _)).lt
    have hown3 := ownsRow_setCell_below (ownsRow_setCell_below (ownsRow_setCell_below hown2 (a := ⟨w.heap.size + 1, 0, none⟩) hlt (.string s)) (a := ⟨w.heap.size + 1, 1, none⟩) hlt (.int .i64 f)) (a := ⟨w.heap.size + 1, 2, none⟩) hlt (.slice A2 l.length c2)
    have hloc := batV_local (b := (s, f, l)) hown3 (base' := w.heap.size) (by have h6 : w.heap.size + 1 < w0.heap.size := hlt; show w.heap.size ≤ w0.heap.size; omega) (by have h5 : w0.heap.size ≤ w2.heap.size := hb2.size; have h6 : w.heap.size + 1 < w0.heap.size := hlt; simp only [World.size_setCell]; omega) hE2.2 hs ⟨hf1, hf2⟩
    have Hloc := Lib.hid hloc
    clear hloc
    go_wp2
    refine bodyPost_ret (v := .agg #[.string s, .int .i64 f, .slice A2 l.length c2]) (by simp [results, Try.results30, go_sem, r0, r1, r2]) rfl ⟨A2, c2, rfl, Hloc.out, ((hB2.setCell (p := ⟨w.heap.size + 1, 0, none⟩) (Nat.le_succ _) _).setCell (p := ⟨w.heap.size + 1, 1, none⟩) (Nat.le_succ _) _).setCell (p := ⟨w.heap.size + 1, 2, none⟩) (Nat.le_succ _) _⟩
end Go.Proofs.Ytiojapjidgjaoaa
