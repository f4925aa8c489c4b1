/-
  MODEL: the two models side by side, behind each act; pages in one form.
-/
import Derived.Test.YtmplabhofhllmaaPlayM
import Derived.Test.YtmplabhofhllmaaOpenActM
import Derived.Test.YtmplabhofhllmaaModPlain
import Derived.Deep.RegionHeldLaw
import Derived.Deep.RegionHeld3
namespace Go.Proofs.Ytmplabhofhllmaa
open Go.RowKit
set_option linter.unusedVariables false

theorem RefW.flush {w : World} {base g : Nat} {vL vM : Value} {T : List Tld} {M : List Nat} {sure : Nat} (h : RefW w base g vL vM T M sure) (n : Nat) : RefW (w.setCell ⟨g, 2, none⟩ (.int .i64 (n : Int))) base g vL vM T M n :=
  ⟨h.1.set 2 _, h.2.1, h.2.2.1.keep fun k hk => set_far h.1 (h.2.2.1.row hk).1 types_neF.1 2 _, h.2.2.2.1.keep fun k hk => set_far h.1 (h.2.2.2.1.row hk).1 types_neF.2.1 2 _, h.2.2.2.2⟩
structure Pair (w0 w : World) (B : Nat) (v vL vM : Value) (L : List BatP) (sure : Nat) : Prop where
  m : ModW w B B v L sure
  r : RefW w B (B + 1) vL vM (allL L) (lenL L) sure
  row : Rowed L
  below : Below B w0 w
theorem Pair.next {w0 w w' : World} {B : Nat} {v vL vM : Value} {L : List BatP} {sure : Nat} (h : Pair w0 w B v vL vM L sure) (hb : Below w.heap.size w w') (hB : B ≤ w0.heap.size) : Pair w0 w' B v vL vM L sure :=
  ⟨h.m.next hb, h.r.next hb, h.row, below_more h.below hb hB⟩
theorem Pair.size {w0 w : World} {B : Nat} {v vL vM : Value} {L : List BatP} {sure : Nat} (h : Pair w0 w B v vL vM L sure) : B ≤ w.heap.size := Nat.le_of_lt h.m.1.lt
theorem Pair.fine {w0 w : World} {B : Nat} {v vL vM : Value} {L : List BatP} {sure : Nat} (h : Pair w0 w B v vL vM L sure) : ∀ p ∈ L, fineB p.2 := fun p hp => (h.m.2.2.2 p hp).2
theorem Pair.flush1 {w0 w : World} {B : Nat} {v vL vM : Value} {L : List BatP} {sure : Nat} (h : Pair w0 w B v vL vM L sure) (n : Nat) :
    ModW (w.setCell ⟨B, 2, none⟩ (.int .i64 (n : Int))) B B v L n ∧ RefW (w.setCell ⟨B, 2, none⟩ (.int .i64 (n : Int))) B (B + 1) vL vM (allL L) (lenL L) sure ∧ Below B w0 (w.setCell ⟨B, 2, none⟩ (.int .i64 (n : Int))) :=
  ⟨h.m.flush n, h.r.by_mod h.m (Keep2.of_set 2 _ none) (.inl rfl), h.below.setCell (p := ⟨B, 2, none⟩) (Nat.le_refl _) _⟩
theorem Pair.flush {w0 w : World} {B : Nat} {v vL vM : Value} {L : List BatP} {sure : Nat} (h : Pair w0 w B v vL vM L sure) (n : Nat) :
    Pair w0 ((w.setCell ⟨B, 2, none⟩ (.int .i64 (n : Int))).setCell ⟨B + 1, 2, none⟩ (.int .i64 (n : Int))) B v vL vM L n := by
  obtain ⟨h1, h2, h3⟩ := h.flush1 n
  exact ⟨h1.by_ref h2 (fun k hk hne _ _ => Below.heap_setCell _ _ _ _ hne), h2.flush n, h.row, h3.setCell (p := ⟨B + 1, 2, none⟩) (Nat.le_succ _) _⟩
/-- The cut leaves a front. -/
theorem Rowed.front {L : List BatP} (h : Rowed L) (k : Nat) : Rowed (L.take k) := by
  intro s i t ht
  have h2 : streamL L s = streamL (L.take k) s ++ streamL (L.drop k) s := by
    unfold streamL
    rw [← List.filter_append, ← allL_append, List.take_append_drop]
  refine h s i t ?_
  rw [h2, List.getElem?_append_left (List.getElem?_eq_some_iff.1 ht).1]
  exact ht
/-- Behind both Cuts. -/
theorem Pair.cut {w0 w w1 w2 : World} {B : Nat} {v v' vL vM vL' vM' : Value} {L : List BatP} {sure k k' : Nat} {l : List Tld} (h : Pair w0 w B v vL vM L sure) (hm : ModW w1 B B v' (L.take k) k) (hk1 : Keep2 w w1 B none) (hc : CutOk L sure l k)
    (hr : RefW w2 B (B + 1) vL' vM' ((allL L).take l.length) ((lenL L).take k') k') (hk2 : Keep2 w1 w2 (B + 1) none) (hc' : DocOk (allL L) (lenL L) sure l k') : Pair w0 w2 B v' vL' vM' (L.take k) k ∧ k' = k := by
  have hck := (cut_doc L sure l k').2 hc'
  have he : k' = k := cut_unique h.fine hck.1 hc.1 (by rw [hck.2.2, hc.2.2])
  subst he
  have hr1 := h.r.by_mod h.m hk1 (.inl rfl)
  have e1 : (allL L).take l.length = allL (L.take k') := by rw [← hc.2.2]; exact allL_pre L k'
  have e2 : (lenL L).take k' = lenL (L.take k') := by unfold lenL; rw [List.map_take]
  rw [e1, e2] at hr
  exact ⟨⟨hm.by_ref hr1 (fun q hq hne _ _ => hk2.block q hq hne (by simp)), hr, h.row.front k', below_chain' (below_chain' h.below hk1 h.size (Nat.le_refl _) (fun q hq => by cases hq)) hk2 (Nat.le_trans h.size hk1.size) (Nat.le_succ _) (fun q hq => by cases hq)⟩, rfl⟩
/-- Behind both Appends. -/
theorem Pair.app {w0 w w1 w2 : World} {B : Nat} {v v' vL vM vL' vM' pe : Value} {L : List BatP} {sure : Nat} {s : ByteArray} {l : List Ev} (h : Pair w0 w B v vL vM L sure) (hm : ModW w1 B B v' (L ++ [(pe, (s, lastL L s + 1, l))]) sure) (hk1 : Keep2 w w1 B v.ownBlock)
    (hr : RefW w2 B (B + 1) vL' vM' (allL L ++ toldFrom s (lastL L s + 1) l) (lenL L ++ [l.length]) sure) (hb2 : Below B w1 w2) (hk2 : ∀ k, k < w1.heap.size → k ≠ B + 1 → some k ≠ vL.ownBlock → some k ≠ vM.ownBlock → w2.heap[k]? = w1.heap[k]?) : Pair w0 w2 B v' vL' vM' (L ++ [(pe, (s, lastL L s + 1, l))]) sure := by
  have hr1 := h.r.by_mod h.m hk1 (.inr rfl)
  have e1 : allL L ++ toldFrom s (lastL L s + 1) l = allL (L ++ [(pe, (s, lastL L s + 1, l))]) := by rw [allL_append]; simp [allL, toldB]
  have e2 : lenL L ++ [l.length] = lenL (L ++ [(pe, (s, lastL L s + 1, l))]) := by simp [lenL]
  rw [e1, e2] at hr
  have hb1 : Below B w0 w1 := below_chain' h.below hk1 h.size (Nat.le_refl _) (fun q hq => by
    obtain ⟨ys, hy⟩ := h.m.own_type hq
    rcases h.m.2.2.1 with ho | ⟨b9, rfl, hb9, -⟩
    · exact own_block_ge ho q hq
    · simp [Value.ownBlock] at hq; omega)
  exact ⟨hm.by_ref hr1 hk2, hr, h.row.app _ _ _, ⟨hb2.os.trans hb1.os, hb2.tape.trans hb1.tape, hb2.output.trans hb1.output, Nat.le_trans hb1.size hb2.size, fun q hq => (hb2.block q hq).trans (hb1.block q hq)⟩⟩
theorem allL_100 {L : List BatP} (h : ∀ p ∈ L, fineB p.2) (hl : L.length ≤ 200) : (allL L).length ≤ 1600 := by
  have := allL_len h
  omega
theorem law_ToldSame (va vb : Value) (a : List Tld) (w : World) (ha : Tolds w va a) (hb : Tolds w vb a) (hn : a.length ≤ 1600) :
    Calls Try.prog 11 #[va, vb] w fun e w' => e = .returned (.bool true) ∧ Below w.heap.size w w' := by
  have := law_ToldL va vb a a w ha hb ⟨by omega, by omega⟩
  rwa [show decide (a = a) = true from by simp] at this
theorem bAllocM {a w : World} (h : Below a.heap.size a w) (o : Obj) : Below a.heap.size a (w.alloc o) := h.alloc h.size o
theorem pageT_ok {S : List Tld} (h : ∀ t ∈ S, okT t) (f c : Int) (d : Bool) : ∀ t ∈ pageT S f c d, okT t := by
  intro t ht
  unfold pageT at ht
  split at ht
  · exact h t (List.mem_filter.1 (List.mem_reverse.1 ht)).1
  · exact h t (List.mem_filter.1 ht).1
def pageB (L : List BatP) (s : ByteArray) (f c : Int) (d : Bool) : List Tld := if badP s f c then [] else pageT (streamL L s) f c d
def PageB (w : World) (L : List BatP) (s : ByteArray) (f c : Int) (d : Bool) (e : Ending) (w' : World) : Prop := ∃ vp, e = .returned (.tuple #[vp, .int .i64 (if badP s f c then 2 else 0)]) ∧ Tolds w' vp (pageB L s f c d) ∧ Below w.heap.size w w'
theorem pageB_of {w w' : World} {L : List BatP} {s : ByteArray} {f c : Int} {d : Bool} {e : Ending} {T : List Tld} (hT : badP s f c = false → T = pageT (streamL L s) f c d) (hok : ∀ t ∈ streamL L s, okT t) (h1 : badP s f c = true → e = .returned (.tuple #[.slice none 0 0, .int .i64 2]) ∧ w = w') (h2 : badP s f c = false → PageY w T e w') : PageB w L s f c d e w' := by
  unfold PageB pageB
  rcases hb : badP s f c with _ | _
  · obtain ⟨v', rfl, h3, h4⟩ := h2 hb
    rw [hT hb] at h3
    exact ⟨v', rfl, ⟨Reads.of_own h3, pageT_ok hok f c d⟩, h4⟩
  · obtain ⟨rfl, rfl⟩ := h1 hb
    exact ⟨_, rfl, ⟨Reads.nil _ _, by simp⟩, Below.refl _ _⟩
theorem Pair.okS {w0 w : World} {B : Nat} {v vL vM : Value} {L : List BatP} {sure : Nat} (h : Pair w0 w B v vL vM L sure) (s : ByteArray) : ∀ t ∈ streamL L s, okT t := fun t ht => allL_ok h.fine t (List.mem_filter.1 ht).1
theorem pair_fwd {w0 w : World} {B : Nat} {v vL vM : Value} {L : List BatP} {sure : Nat} (h : Pair w0 w B v vL vM L sure) (s : ByteArray) (f c : Int) (hL : L.length ≤ 200) (hs : s.size ≤ maxLen) (hf : (-9223372036854775808 ≤ f ∧ f ≤ 9223372036854775807) ∧ (-9223372036854775808 ≤ c ∧ c ≤ 9223372036854775807)) :
    Calls Try.prog 9 #[.pointer (some ⟨B, 0, none⟩), .string s, .int .i64 f, .int .i64 c] w (PageB w L s f c false) :=
  (model_Forward B v L sure s f c w h.m.r (by omega) hs hf.1 hf.2).mono fun e w' hh => pageB_of (fun _ => rfl) (h.okS s) hh.1 hh.2
theorem pair_back {w0 w : World} {B : Nat} {v vL vM : Value} {L : List BatP} {sure : Nat} (h : Pair w0 w B v vL vM L sure) (s : ByteArray) (f c : Int) (hL : L.length ≤ 200) (hs : s.size ≤ maxLen) (hf : (-9223372036854775808 ≤ f ∧ f ≤ 9223372036854775807) ∧ (-9223372036854775808 ≤ c ∧ c ≤ 9223372036854775807)) :
    Calls Try.prog 12 #[.pointer (some ⟨B, 0, none⟩), .string s, .int .i64 f, .int .i64 c] w (PageB w L s f c true) :=
  (model_Backward B v L sure s f c w h.m.r (by omega) hs hf.1 hf.2).mono fun e w' hh => pageB_of (fun _ => rfl) (h.okS s) hh.1 hh.2
theorem badP_no {s : ByteArray} {f c : Int} (h : badP s f c = false) : 0 ≤ f ∧ 1 ≤ c := by
  unfold badP at h
  simp at h
  omega
theorem pair_page {w0 w : World} {B : Nat} {v vL vM : Value} {L : List BatP} {sure : Nat} (h : Pair w0 w B v vL vM L sure) (s : ByteArray) (f c : Int) (d : Bool) (hL : L.length ≤ 200) (hs : s.size ≤ maxLen) (hf : (-9223372036854775808 ≤ f ∧ f ≤ 9223372036854775807) ∧ (-9223372036854775808 ≤ c ∧ c ≤ 9223372036854775807)) :
    Calls Try.prog 10 #[.pointer (some ⟨B + 1, 0, none⟩), .string s, .int .i64 f, .int .i64 c, .bool d] w (PageB w L s f c d) :=
  (refM_Page (B + 1) vL vM (allL L) (lenL L) sure s f c d w h.r.r (by have := allL_100 h.fine hL; omega) hs hf.1 hf.2 (fun t ht => allL_range h.fine t (List.mem_filter.1 ht).1)).mono fun e w' hh =>
    pageB_of (T := docP (streamL L s) f c d (streamL L s).length) (fun hb => docP_all (h.row s) (badP_no hb).1 (badP_no hb).2 d) (h.okS s) hh.1 hh.2
theorem pageB_len {L : List BatP} (h : ∀ p ∈ L, fineB p.2) (hL : L.length ≤ 200) (s : ByteArray) (f c : Int) (d : Bool) : (pageB L s f c d).length ≤ 1600 := by
  unfold pageB
  split
  · simp
  · have h1 := pageT_len (streamL L s) f c d
    have h2 := streamL_len h s
    omega
theorem cut_index (pa : Int) (tn : Nat) (h : tn ≤ 1600) : ∃ q : Nat, q ≤ tn ∧ wrap64 ((IntKind.u64.wrap pa).tmod ((tn : Int) + 1)) = (q : Int) := by
  have h0 : 0 ≤ IntKind.u64.wrap pa := by rw [IntKind.wrap_u64]; omega
  generalize IntKind.u64.wrap pa = z at h0 ⊢
  obtain ⟨m, rfl⟩ := Int.eq_ofNat_of_zero_le h0
  have e : ((m : Int)).tmod ((tn : Int) + 1) = ((m % (tn + 1) : Nat) : Int) := by
    rw [show (tn : Int) + 1 = ((tn + 1 : Nat) : Int) from by omega, ← Int.ofNat_tmod]
  have h1 : m % (tn + 1) < tn + 1 := Nat.mod_lt _ (by omega)
  rw [e]
  refine ⟨m % (tn + 1), by omega, ?_⟩
  generalize m % (tn + 1) = y at h1
  unfold wrap64
  omega
/-- Both Cuts, one behind the other: one answer, and the models side by side. -/
theorem Pair.cuts {w0 w w1 w2 : World} {B : Nat} {v vL vM : Value} {L : List BatP} {sure : Nat} {l : List Tld} {e1 e2 : Ending} (h : Pair w0 w B v vL vM L sure) (hB0 : B ≤ w0.heap.size) (h1 : CutNo w L sure l e1 w1 ∨ CutYes w B B L sure l e1 w1)
    (h2 : RefCutNo w1 (allL L) (lenL L) sure l e2 w2 ∨ RefCutYes w1 B (B + 1) (allL L) (lenL L) sure l e2 w2) :
    ∃ b v' vL' vM' L' sure', e1 = .returned (.bool b) ∧ e2 = .returned (.bool b) ∧ Pair w0 w2 B v' vL' vM' L' sure' ∧ L'.length ≤ L.length := by
  rcases h1 with ⟨rfl, hno, hb1⟩ | ⟨k, v', rfl, hc, hm, hk1⟩
  · rcases h2 with ⟨rfl, -, hb2⟩ | ⟨k', vL', vM', rfl, hc', hr, hk2⟩
    · exact ⟨false, v, vL, vM, L, sure, rfl, rfl, (h.next hb1 hB0).next hb2 hB0, Nat.le_refl _⟩
    · exact absurd ((cut_doc L sure l k').2 hc') (hno k')
  · rcases h2 with ⟨rfl, hno, -⟩ | ⟨k', vL', vM', rfl, hc', hr, hk2⟩
    · exact absurd ((cut_doc L sure l k).1 hc) (hno k)
    · exact ⟨true, v', vL', vM', L.take k, k, rfl, rfl, (h.cut hm hk1 hc hr hk2 hc').1, by rw [List.length_take]; omega⟩
/-- Between the two Cuts: the document's model, and a list of one's own. -/
theorem Pair.mid {w0 w w1 : World} {B base n : Nat} {v vL vM va : Value} {L : List BatP} {sure : Nat} {l T : List Tld} {e1 : Ending} (h : Pair w0 w B v vL vM L sure) (h1 : CutNo w L sure l e1 w1 ∨ CutYes w B B L sure l e1 w1) (ho : w.ownsRow base 48 5 va n (toldsC T)) :
    RefW w1 B (B + 1) vL vM (allL L) (lenL L) sure ∧ w1.ownsRow base 48 5 va n (toldsC T) ∧ ∃ b, e1 = .returned (.bool b) := by
  rcases h1 with ⟨rfl, hno, hb1⟩ | ⟨k, v', rfl, hc, hm, hk1⟩
  · exact ⟨h.r.next hb1, own_next ho hb1, _, rfl⟩
  · exact ⟨h.r.by_mod h.m hk1 (.inl rfl), own_keepR ho (fun q hq => hk1.block q (own_lt ho q hq) (own_other ho h.m.1 types_neT q hq) (by simp)), _, rfl⟩
end Go.Proofs.Ytmplabhofhllmaa
