/-
  MODEL: both models behind an Append; a list of one's own that is marked; what is told, with another text.
-/
import Derived.Test.YtmplabhofhllmaaPlayT
namespace Go.Proofs.Ytmplabhofhllmaa
open Go.RowKit
set_option linter.unusedVariables false

theorem types_ev : (46 : TypeId) ≠ 56 ∧ (46 : TypeId) ≠ 65 ∧ (46 : TypeId) ≠ 31 ∧ (46 : TypeId) ≠ 48 ∧ (46 : TypeId) ≠ 3 := ⟨by decide, by decide, by decide, by decide, by decide⟩
theorem own_form {w : World} {base size n : Nat} {e : TypeId} {v : Value} {xs : List Value} (h : w.ownsRow base e size v n xs) (hn : 0 < n) : ∃ g cap, v = .slice (some ⟨g, 0, none⟩) n cap ∧ base ≤ g ∧ g < w.heap.size := by
  rcases h.2 with ⟨_, h0⟩ | ⟨g, cap, cur, hv, hb, hg, _⟩
  · omega
  · exact ⟨g, cap, hv, hb, (Array.getElem?_eq_some_iff.1 hg).1⟩
theorem types_act : (34 : TypeId) ≠ 56 ∧ (34 : TypeId) ≠ 65 := ⟨by decide, by decide⟩
/-- A cell of a list of one's own is turned: the models stay. -/
theorem Pair.mark {w0 w : World} {B b : Nat} {v vL vM : Value} {L : List BatP} {sure : Nat} {xs : List Value} (h : Pair w0 w B v vL vM L sure) (hr : Row w b 46 xs) (hb : B ≤ b) (hne : ∀ p ∈ L, ∀ k, p.1.ownBlock = some k → k ≠ b) (j : Nat) (u : Value) : Pair w0 (w.setCell ⟨b, j, none⟩ u) B v vL vM L sure := by
  have hs : ∀ k, k ≠ b → (w.setCell ⟨b, j, none⟩ u).heap[k]? = w.heap[k]? := fun k hk => Below.heap_setCell _ _ _ _ hk
  have hR : ∀ k t ys, Row w k t ys → 46 ≠ t → (w.setCell ⟨b, j, none⟩ u).heap[k]? = w.heap[k]? := fun k t ys h1 h2 => hs k (fun h9 => by subst h9; exact h2 (row_types hr h1))
  refine ⟨⟨h.m.1.of_block (hR _ _ _ h.m.1 types_ev.1), h.m.2.1, ?_, fun p hp => ⟨own_keepR (h.m.2.2.2 p hp).1 (fun k hk => hs k (hne p hp k hk)), (h.m.2.2.2 p hp).2⟩⟩, ⟨h.r.1.of_block (hR _ _ _ h.r.1 types_ev.2.2.1), h.r.2.1, ?_, ?_, h.r.2.2.2.2⟩, h.row, h.below.setCell (p := ⟨b, j, none⟩) hb u⟩
  · rcases h.m.2.2.1 with ho | ⟨b9, rfl, h1, h2, h3⟩
    · exact .inl (own_keepR ho fun k h9 => hR _ _ _ (own_row ho h9) types_ev.2.1)
    · exact .inr ⟨b9, rfl, h1, h2.of_block (hR _ _ _ h2 types_ev.2.1), h3⟩
  · exact h.r.2.2.1.keep fun k h9 => hR _ _ _ (h.r.2.2.1.row h9).1 types_ev.2.2.2.1
  · exact h.r.2.2.2.1.keep fun k h9 => hR _ _ _ (h.r.2.2.2.1.row h9).1 types_ev.2.2.2.2
/-- What the program's Append leaves, said once. -/
def AppP (w : World) (B : Nat) (v : Value) (L : List BatP) (sure : Nat) (s : ByteArray) (x : Int) (l : List Ev) (e : Ending) (w' : World) : Prop :=
  (appE L s x l ≠ 0 → AppNo w (appE L s x l) e w') ∧ (appE L s x l = 0 → AppYes w B B v L sure s (lastL L s + 1) l e w')
def AppR (w : World) (B : Nat) (vL vM : Value) (T : List Tld) (M : List Nat) (sure : Nat) (s : ByteArray) (x : Int) (l : List Ev) (e : Ending) (w' : World) : Prop :=
  (appT T s x l ≠ 0 → AppNo w (appT T s x l) e w') ∧ (appT T s x l = 0 → RAppYes w B (B + 1) vL vM T M sure s ((streamT T s).length : Int) l e w')
/-- Between the two Appends. -/
theorem Pair.apps1 {w0 w w1 : World} {B base n : Nat} {v vL vM vo : Value} {L : List BatP} {sure : Nat} {s : ByteArray} {x : Int} {l : List Ev} {e1 : Ending} {xs : List Value} (h : Pair w0 w B v vL vM L sure) (hB : B ≤ w0.heap.size) (h1 : AppP w B v L sure s x l e1 w1) (ho : w.ownsRow base 46 3 vo n xs) :
    RefW w1 B (B + 1) vL vM (allL L) (lenL L) sure ∧ Below B w0 w1 ∧ w1.ownsRow base 46 3 vo n xs ∧ w.heap.size ≤ w1.heap.size ∧ (∀ k t ys, Row w k t ys → t ≠ 56 → t ≠ 65 → Row w1 k t ys) ∧ ∃ a c : Int, e1 = .returned (.tuple #[.int .i64 a, .int .i64 c]) := by
  by_cases hc : appE L s x l = 0
  · obtain ⟨rfl, v', pe, hm, hk, -, -⟩ := h1.2 hc
    refine ⟨h.r.by_mod h.m hk (.inr rfl), below_chain' h.below hk h.size (Nat.le_refl _) (fun q hq => ?_), own_keepR ho (fun q hq => hk.block q (own_lt ho q hq) (own_other ho h.m.1 types_ev.1 q hq) (fun h9 => ?_)), hk.size, fun k t ys hr h2 h3 => hr.of_block (hk.block k hr.lt (fun h9 => by subst h9; exact h2 (row_types hr h.m.1)) (fun h9 => ?_)), _, _, rfl⟩
    · rcases h.m.2.2.1 with ho | ⟨b9, rfl, hb9, -⟩
      · exact own_block_ge ho q hq
      · simp [Value.ownBlock] at hq; omega
    · obtain ⟨ys, hy⟩ := h.m.own_type h9.symm
      exact types_ev.2.1 (row_types (own_row ho hq) hy)
    · obtain ⟨ys, hy⟩ := h.m.own_type h9.symm
      exact h3 (row_types hr hy)
  · obtain ⟨rfl, hb⟩ := h1.1 hc
    exact ⟨h.r.next hb, below_more h.below hb hB, own_next ho hb, hb.size, fun k t ys hr _ _ => hr.next hb, _, _, rfl⟩
/-- Both Appends, one behind the other: one answer, and the models side by side. -/
theorem Pair.apps {w0 w w1 w2 : World} {B base n : Nat} {v vL vM vo : Value} {L : List BatP} {sure : Nat} {s : ByteArray} {x : Int} {l : List Ev} {e1 e2 : Ending} {xs : List Value} (h : Pair w0 w B v vL vM L sure) (hB : B ≤ w0.heap.size) (h1 : AppP w B v L sure s x l e1 w1) (h2 : AppR w1 B vL vM (allL L) (lenL L) sure s x l e2 w2) (ho : w.ownsRow base 46 3 vo n xs)
    (hfr : ∀ p ∈ L, ∀ k, p.1.ownBlock = some k → k < base) :
    ∃ (a c : Int) (v' vL' vM' : Value) (L' : List BatP), e1 = .returned (.tuple #[.int .i64 a, .int .i64 c]) ∧ e2 = .returned (.tuple #[.int .i64 a, .int .i64 c]) ∧ Pair w0 w2 B v' vL' vM' L' sure ∧ L'.length ≤ L.length + 1 ∧ w2.ownsRow base 46 3 vo n xs ∧ ∀ p ∈ L', ∀ k, p.1.ownBlock = some k → vo.ownBlock ≠ some k := by
  have hold : ∀ p ∈ L, ∀ k, p.1.ownBlock = some k → vo.ownBlock ≠ some k := fun p hp k hk h9 => by
    have h3 := own_block_ge ho k h9
    have h4 := hfr p hp k hk
    omega
  obtain ⟨hr1, hb1, ho1, hsz, -, -⟩ := h.apps1 hB h1 ho
  have hAT := app_doc L s x l
  by_cases hc : appE L s x l = 0
  · obtain ⟨rfl, v', pe, hm, hk, -, hpe⟩ := h1.2 hc
    obtain ⟨rfl, vL', vM', hr2, hb2, hk2⟩ := h2.2 (by rw [hAT]; exact hc)
    have hlast : ((streamT (allL L) s).length : Int) = lastL L s + 1 := by unfold lastL; rw [streamT_all]; omega
    rw [hlast] at hr2 ⊢
    refine ⟨_, _, v', vL', vM', _, rfl, rfl, h.app hm hk hr2 hb2 hk2, by rw [List.length_append]; exact Nat.le_refl _, own_keepR ho1 (fun q hq => hk2 q (own_lt ho1 q hq) (own_other ho1 hr1.1 types_ev.2.2.1 q hq) (fun h9 => ?_) (fun h9 => ?_)), fun p hp k hkk => ?_⟩
    · exact types_ev.2.2.2.1 (row_types (own_row ho1 hq) (hr1.2.2.1.row h9.symm).1)
    · exact types_ev.2.2.2.2 (row_types (own_row ho1 hq) (hr1.2.2.2.1.row h9.symm).1)
    · rcases List.mem_append.1 hp with hp | hp
      · exact hold p hp k hkk
      · rw [List.mem_singleton.1 hp] at hkk
        intro h9
        have h3 := hpe k hkk
        have h4 := own_lt ho k h9
        omega
  · obtain ⟨rfl, hb⟩ := h1.1 hc
    obtain ⟨he2, hb'⟩ := h2.1 (by rw [hAT]; exact hc)
    rw [hAT] at he2
    subst he2
    exact ⟨_, _, v, vL, vM, L, rfl, rfl, (h.next hb hB).next hb' hB, by omega, own_next ho1 hb', hold⟩
/-- One that is told, with another text. -/
def turnT (t : Tld) (d : ByteArray) : Tld := (t.1, t.2.1, t.2.2.1, d, t.2.2.2.2)
theorem toldsC_set (T : List Tld) (i : Nat) (t : Tld) (h : T[i]? = some t) (d : ByteArray) : (toldsC T).set (i * 5 + 3) (.string d) = toldsC (T.set i (turnT t d)) := by
  induction T generalizing i with
  | nil => simp at h
  | cons a T ih =>
    cases i with
    | zero =>
      simp at h
      subst h
      rfl
    | succ i =>
      have h' : T[i]? = some t := by simpa using h
      have := ih i h'
      rw [List.set_cons_succ]
      show (toldC a ++ toldsC T).set ((i + 1) * 5 + 3) (.string d) = toldC a ++ toldsC (T.set i (turnT t d))
      rw [← this, show (i + 1) * 5 + 3 = i * 5 + 3 + 5 from by omega]
      rfl
theorem own_turned {w : World} {base b n c i : Nat} {T : List Tld} {t : Tld} (h : w.ownsRow base 48 5 (.slice (some ⟨b, 0, none⟩) n c) n (toldsC T)) (ht : T[i]? = some t) (d : ByteArray) :
    (w.setCell ⟨b, i * 5 + 3, none⟩ (.string d)).ownsRow base 48 5 (.slice (some ⟨b, 0, none⟩) n c) n (toldsC (T.set i (turnT t d))) := by
  rw [← toldsC_set T i t ht d]
  exact (h.stored (i * 5 + 3) (.string d)).1
theorem told_small {L : List BatP} (h : ∀ p ∈ L, fineB p.2) : ∀ t ∈ allL L, t.2.2.2.1.size ≤ 200 := by
  intro t ht
  obtain ⟨p, hp, h2⟩ := List.mem_flatMap.1 ht
  obtain ⟨-, -, -, h4⟩ := toldFrom_mem h2
  have := (checkB_parts (h p hp).2).2.2.2.2.2.2 _ h4
  unfold checkV at this
  split at this
  · omega
  · split at this
    · omega
    · omega
theorem turned_ok {T : List Tld} {i : Nat} {t : Tld} (h : ∀ t ∈ T, okT t) (ht : T[i]? = some t) (d : ByteArray) (hd : d.size ≤ maxLen) : ∀ u ∈ T.set i (turnT t d), okT u := by
  intro u hu
  rcases List.mem_or_eq_of_mem_set hu with h9 | rfl
  · exact h u h9
  · have := h t (List.mem_of_getElem? ht)
    exact ⟨this.1, this.2.1, this.2.2.1, hd, this.2.2.2.2⟩
end Go.Proofs.Ytmplabhofhllmaa
