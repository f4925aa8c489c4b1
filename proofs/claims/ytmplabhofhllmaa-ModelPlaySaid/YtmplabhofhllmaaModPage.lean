/-
  MODEL: pages of a stream.
-/
import Derived.Test.YtmplabhofhllmaaMod3
namespace Go.Proofs.Ytmplabhofhllmaa
open Go.RowKit
set_option linter.unusedVariables false

def inPage (f c : Int) (d : Bool) (t : Tld) : Bool := if d then decide (t.2.1 - f ≤ 0) && decide (-(t.2.1 - f) < c) else decide (0 ≤ t.2.1 - f) && decide (t.2.1 - f < c)
def pageT (T : List Tld) (f c : Int) (d : Bool) : List Tld := if d then (T.filter (inPage f c d)).reverse else T.filter (inPage f c d)
theorem pageT_len (T : List Tld) (f c : Int) (d : Bool) : (pageT T f c d).length ≤ T.length := by
  unfold pageT
  have := List.length_filter_le (inPage f c d) T
  split
  · rw [List.length_reverse]; exact this
  · exact this
theorem pageT_out {T : List Tld} {k : Nat} {t : Tld} {f c : Int} {d : Bool} (h : T[k]? = some t) (hi : inPage f c d t = false) : pageT (T.take (k + 1)) f c d = pageT (T.take k) f c d := by
  unfold pageT
  rw [filter_take_succM h]
  simp [hi]
theorem pageT_up {T : List Tld} {k : Nat} {t : Tld} {f c : Int} (h : T[k]? = some t) (hi : inPage f c false t = true) : pageT (T.take (k + 1)) f c false = pageT (T.take k) f c false ++ [t] := by
  unfold pageT
  rw [filter_take_succM h]
  simp [hi]
theorem pageT_down {T : List Tld} {k : Nat} {t : Tld} {f c : Int} (h : T[k]? = some t) (hi : inPage f c true t = true) : pageT (T.take (k + 1)) f c true = [t] ++ pageT (T.take k) f c true := by
  unfold pageT
  rw [filter_take_succM h]
  simp [hi]
theorem told_own (w : World) (t : Tld) : (w.alloc (.cells (toldA t) 48)).ownsRow w.heap.size 48 5 (.slice (some ⟨w.heap.size, 0, none⟩) 1 1) 1 (toldsC [t]) :=
  ⟨rfl, .inr ⟨w.heap.size, 1, toldA t, rfl, Nat.le_refl _, heap_alloc_new w _, Nat.le_refl _, by unfold maxLen; omega, rfl, rfl⟩⟩
theorem allL_range {L : List BatP} (h : ∀ p ∈ L, fineB p.2) : ∀ t ∈ allL L, 0 ≤ t.2.1 ∧ t.2.1 ≤ 1073741824 := by
  intro t ht
  obtain ⟨p, hp, h2⟩ := List.mem_flatMap.1 ht
  obtain ⟨h3, h4, h5, h6⟩ := toldFrom_mem h2
  have := (h p hp).range
  omega
def badP (s : ByteArray) (f c : Int) : Bool := !streamOk s || (decide (f < 0) || decide (c < 1))
def PageY (w : World) (T : List Tld) (e : Ending) (w' : World) : Prop := ∃ v', e = .returned (.tuple #[v', .int .i64 0]) ∧ w'.ownsRow w.heap.size 48 5 v' T.length (toldsC T) ∧ Below w.heap.size w w'
set_option maxRecDepth 100000 in
set_option maxHeartbeats 4000000 in
theorem model_page (g : Nat) (v : Value) (L : List BatP) (sure : Nat) (s : ByteArray) (f c : Int) (d : Bool) (w : World) (h : ModR w g v L sure) (hL : L.length ≤ 100000) (hs : s.size ≤ maxLen) (hf : -9223372036854775808 ≤ f ∧ f ≤ 9223372036854775807) (hc : -9223372036854775808 ≤ c ∧ c ≤ 9223372036854775807) :
    Calls Try.prog 23 #[.pointer (some ⟨g, 0, none⟩), .string s, .int .i64 f, .int .i64 c, .bool d] w fun e w' =>
      (badP s f c = true → e = .returned (.tuple #[.slice none 0 0, .int .i64 2]) ∧ w = w') ∧ (badP s f c = false → PageY w (pageT (streamL L s) f c d) e w') := by
  have HN := model_none_no g _ _ w h.1
  have HO := names_Stream s w hs
  have HS := model_stream g v L sure s w h hL
  have hlen := streamL_len (fun p hp => (h.2.2 p hp).2) s
  have hrg : ∀ t ∈ streamL L s, 0 ≤ t.2.1 ∧ t.2.1 ≤ 1073741824 := fun t ht => allL_range (fun p hp => (h.2.2 p hp).2) t (List.mem_filter.1 ht).1
  have hokT : ∀ t ∈ streamL L s, okT t := fun t ht => allL_ok (fun p hp => (h.2.2 p hp).2) t (List.mem_filter.1 ht).1
  rcases hok : streamOk s with _ | _
  · have hb : badP s f c = true := by unfold badP; rw [hok]; rfl
    rw [hok] at HO
    have HBB := Lib.hid hb
    clear h HS hok hb hlen hrg hokT hf hc
    go_enter Try.func23, Try.ntmps23
    go_wp2_with fail
    refine HN.mono ?_
    rintro e w' ⟨rfl, rfl⟩
    go_wp2_with fail
    refine HO.mono ?_
    rintro e w' ⟨rfl, rfl⟩
    go_wp2
    go_ret2
    rw [HBB.out]
    exact ⟨fun _ => ⟨rfl, rfl⟩, fun h => by cases h⟩
  · rw [hok] at HO
    by_cases h1 : f < 0 ∨ c < 1
    · have hb : badP s f c = true := by unfold badP; rw [hok]; simpa using h1
      have HBB := Lib.hid hb
      clear h HS hok hb hlen hrg hokT hf hc
      rcases (show f < 0 ∨ (¬ f < 0 ∧ c < 1) from by omega) with h2 | ⟨h2, h3⟩
      all_goals
        clear h1
        go_enter Try.func23, Try.ntmps23
        go_wp2_with fail
        refine HN.mono ?_
        rintro e w' ⟨rfl, rfl⟩
        go_wp2_with fail
        refine HO.mono ?_
        rintro e w' ⟨rfl, rfl⟩
        go_wp2
        go_ret2
        rw [HBB.out]
        exact ⟨fun _ => ⟨rfl, rfl⟩, fun h => by cases h⟩
    · have hb : badP s f c = false := by unfold badP; rw [hok]; simp; omega
      have h2 : ¬ f < 0 := by omega
      have h3 : ¬ c < 1 := by omega
      have HBB := Lib.hid hb
      have HF := Lib.hid hf
      have HC := Lib.hid hc
      generalize streamL L s = T at *
      obtain ⟨n, hn⟩ : ∃ n, n = T.length := ⟨_, rfl⟩
      rw [← hn] at hlen
      have hn9 : n ≤ 800000 := by omega
      have HT := Lib.hid hn
      have HRG := Lib.hid hrg
      have HOK := Lib.hid hokT
      obtain ⟨i0, hi0, hz0, hz1, hz2⟩ := info_parts infoTold
      clear h hok hb hlen hrg hokT hf hc h1 hL hn
      go_enter Try.func23, Try.ntmps23
      go_wp2_with fail
      refine HN.mono ?_
      rintro e w' ⟨rfl, rfl⟩
      go_wp2_with fail
      refine HO.mono ?_
      rintro e w' ⟨rfl, rfl⟩
      clear HN HO
      go_wp2_with fail
      refine HS.mono ?_
      rintro e w1 ⟨vt, rfl, hown1, hb1⟩
      clear HS
      have hT1 : Tolds w1 vt T := ⟨Reads.of_own hown1, HOK.out⟩
      obtain ⟨A, ca, rfl, -⟩ := id hT1.1
      have HB := Lib.hid (fun h0 => hT1.later h0)
      rw [show T.length = n from HT.out.symm] at hown1 ⊢
      have Hb1 := Lib.hid hb1
      clear hT1 hown1 hb1
      go_wp2_with fail
      go_loopw [12, 35] (fun o i wr => ∃ k m : Nat, k ≤ n ∧ m ≤ k ∧ i = .int .i64 (k : Int) ∧ wr.ownsRow w1.heap.size 48 5 o m (toldsC (pageT (T.take k) f c d)) ∧ (pageT (T.take k) f c d).length = m ∧ Below w1.heap.size w1 wr) (fun _ i _ => n - (intOf i).toNat)
      case atStart => exact ⟨0, 0, by omega, by omega, rfl, by cases d <;> exact World.ownsRow_nil _ _ _ _, by cases d <;> rfl, Below.refl _ _⟩
      case round =>
        obtain ⟨k, m, hk, hm, rfl, hown, hmm, hbr⟩ := hrel
        by_cases hlt : k < n
        · obtain ⟨t, ht⟩ : ∃ t, T[k]? = some t := ⟨_, List.getElem?_eq_getElem (by have := HT.out; omega)⟩
          obtain ⟨b, off, hA, hlt0, hcell⟩ := HB.out (by have := HT.out; omega)
          subst hA
          obtain ⟨c0, c1, c2, c3, c4⟩ := hcell k t ht wr hbr
          have htr := HRG.out t (List.mem_of_getElem? ht)
          obtain ⟨t1, t2, t3, t4, t5⟩ := t
          dsimp only at c0 c1 c2 c3 c4 htr
          have i1 : (k : Int) < n := by omega
          obtain ⟨z, hz⟩ : ∃ z, z = t2 - f := ⟨_, rfl⟩
          have hw1 : IntKind.i64.wrap (t2 - f) = z := by rw [IntKind.wrap_i64]; have := HF.out; omega
          have hw2 : wrap64 (t2 - f) = z := by unfold wrap64; have := HF.out; omega
          have hw3 : IntKind.i64.wrap (-z) = -z := by rw [IntKind.wrap_i64]; have := HF.out; omega
          have hw4 : wrap64 (-z) = -z := by unfold wrap64; have := HF.out; omega
          have Hmm := Lib.hid hmm
          have Hown := Lib.hid hown
          have Hbr := Lib.hid hbr
          have HZ := Lib.hid hz
          have hz1' : Below wr.heap.size wr (wr.alloc (.cells #[.string t1, .int .i64 t2, .string t3, .string t4, .float .f64 t5] 48)) := lit_below wr _
          have hz2' : Below wr.heap.size wr ((wr.alloc (.cells #[.string t1, .int .i64 t2, .string t3, .string t4, .float .f64 t5] 48)).alloc (.cells #[.string t1, .int .i64 t2, .string t3, .string t4, .float .f64 t5] 48)) := lit2_below' wr _ _
          have hrd := told_lit (wr.alloc (.cells #[.string t1, .int .i64 t2, .string t3, .string t4, .float .f64 t5] 48)) (t1, t2, t3, t4, t5)
          have hlit := own_baseM (told_own (wr.alloc (.cells #[.string t1, .int .i64 t2, .string t3, .string t4, .float .f64 t5] 48)) (t1, t2, t3, t4, t5)) (base' := w1.heap.size) (Nat.le_trans hbr.size hz1'.size)
          rw [show (wr.alloc (.cells #[.string t1, .int .i64 t2, .string t3, .string t4, .float .f64 t5] 48)).heap.size = wr.heap.size + 1 from Array.size_push _] at hrd hlit
          have Hz1 := Lib.hid hz1'
          have Hz2 := Lib.hid hz2'
          have Hrd := Lib.hid hrd
          have Hlit := Lib.hid hlit
          clear hcell hmm hown hbr hz1' hz2' hrd hlit htr hz
          cases d with
          | false =>
            by_cases g1 : 0 ≤ z
            · by_cases g2 : z < c
              · have Hg := Lib.hid (show 0 ≤ t2 - f ∧ t2 - f < c from by have := HZ.out; omega)
                have hin : inPage f c false (t1, t2, t3, t4, t5) = true := by have := Hg.out; unfold inPage; simp; omega
                have hst := pageT_up ht hin
                have Hst := Lib.hid hst
                have HTT := Lib.hid ht
                clear ht hst hin
                go_wp2_with (first | (at_builtin; refine wpList_append_reads _ rfl _ _ 28 rfl w1.heap.size 48 i0 _ 5 64 Try.underlying28 hi0 hz0 hz1 hz2 rfl (by decide) _ m _ rfl (own_next Hown.out Hz2.out) _ 1 (toldsC [(t1, t2, t3, t4, t5)]) rfl Hrd.out (toldsC_one _) (by unfold maxLen; omega) (by omega) (below_chain Hbr.out Hz2.out).size ?_; intro v3 w3 hown3 hg3))
                have hb3 := (below_chain Hbr.out Hz2.out).grown hg3 (below_chain Hbr.out Hz2.out).size (own_block_ge Hown.out)
                go_wp2
                go_roundw
                case rel => exact ⟨k + 1, m + 1, by omega, by omega, by go_num, by rw [Hst.out, toldsC_append]; exact hown3, by rw [Hst.out, List.length_append, Hmm.out]; rfl, hb3⟩
                case measure => simp [intOf]; omega
              · have Hg := Lib.hid (show ¬ (t2 - f < c) from by have := HZ.out; omega)
                have hin : inPage f c false (t1, t2, t3, t4, t5) = false := by have := Hg.out; unfold inPage; simp; omega
                have hst := pageT_out ht hin
                have Hst := Lib.hid hst
                have HTT := Lib.hid ht
                clear ht hst hin
                go_wp2
                go_roundw
                case rel => exact ⟨k + 1, m, by omega, by omega, by go_num, by rw [Hst.out]; exact own_next Hown.out Hz1.out, by rw [Hst.out]; exact Hmm.out, below_chain Hbr.out Hz1.out⟩
                case measure => simp [intOf]; omega
            · have Hg := Lib.hid (show ¬ (0 ≤ t2 - f) from by have := HZ.out; omega)
              have hin : inPage f c false (t1, t2, t3, t4, t5) = false := by have := Hg.out; unfold inPage; simp; omega
              have hst := pageT_out ht hin
              have Hst := Lib.hid hst
              have HTT := Lib.hid ht
              clear ht hst hin
              go_wp2
              go_roundw
              case rel => exact ⟨k + 1, m, by omega, by omega, by go_num, by rw [Hst.out]; exact own_next Hown.out Hz1.out, by rw [Hst.out]; exact Hmm.out, below_chain Hbr.out Hz1.out⟩
              case measure => simp [intOf]; omega
          | true =>
            by_cases g1 : z ≤ 0
            · by_cases g2 : -z < c
              · have Hg := Lib.hid (show t2 - f ≤ 0 ∧ -(t2 - f) < c from by have := HZ.out; omega)
                have hin : inPage f c true (t1, t2, t3, t4, t5) = true := by have := Hg.out; unfold inPage; simp; omega
                have hst := pageT_down ht hin
                have Hst := Lib.hid hst
                have HTT := Lib.hid ht
                clear ht hst hin
                go_wp2_with (first | (at_builtin; refine wpList_append_reads _ rfl _ _ 28 rfl w1.heap.size 48 i0 _ 5 64 Try.underlying28 hi0 hz0 hz1 hz2 rfl (by decide) _ 1 (toldsC [(t1, t2, t3, t4, t5)]) rfl Hlit.out _ m _ rfl (Reads.of_own (own_next Hown.out Hz2.out)) (toldsC_one _) (by unfold maxLen; omega) (by omega) (below_chain Hbr.out Hz2.out).size ?_; intro v3 w3 hown3 hg3))
                have hb3 := (below_chain Hbr.out Hz2.out).grown hg3 (below_chain Hbr.out Hz2.out).size (own_block_ge Hlit.out)
                go_wp2
                go_roundw
                case rel => exact ⟨k + 1, 1 + m, by omega, by omega, by go_num, by rw [Hst.out, toldsC_append]; exact hown3, by rw [Hst.out, List.length_append, Hmm.out]; rfl, hb3⟩
                case measure => simp [intOf]; omega
              · have Hg := Lib.hid (show ¬ (-(t2 - f) < c) from by have := HZ.out; omega)
                have hin : inPage f c true (t1, t2, t3, t4, t5) = false := by have := Hg.out; unfold inPage; simp; omega
                have hst := pageT_out ht hin
                have Hst := Lib.hid hst
                have HTT := Lib.hid ht
                clear ht hst hin
                go_wp2
                go_roundw
                case rel => exact ⟨k + 1, m, by omega, by omega, by go_num, by rw [Hst.out]; exact own_next Hown.out Hz1.out, by rw [Hst.out]; exact Hmm.out, below_chain Hbr.out Hz1.out⟩
                case measure => simp [intOf]; omega
            · have Hg := Lib.hid (show ¬ (t2 - f ≤ 0) from by have := HZ.out; omega)
              have hin : inPage f c true (t1, t2, t3, t4, t5) = false := by have := Hg.out; unfold inPage; simp; omega
              have hst := pageT_out ht hin
              have Hst := Lib.hid hst
              have HTT := Lib.hid ht
              clear ht hst hin
              go_wp2
              go_roundw
              case rel => exact ⟨k + 1, m, by omega, by omega, by go_num, by rw [Hst.out]; exact own_next Hown.out Hz1.out, by rw [Hst.out]; exact Hmm.out, below_chain Hbr.out Hz1.out⟩
              case measure => simp [intOf]; omega
        · obtain rfl : k = n := by omega
          rw [List.take_of_length_le (by rw [← HT.out]; exact Nat.le_refl _)] at hown hmm
          have Hown := Lib.hid hown
          have Hmm := Lib.hid hmm
          clear hown hmm
          go_wp2
          go_ret2
          rw [HBB.out]
          refine ⟨(fun h => by cases h), fun _ => ⟨_, rfl, ?_, below_chain Hb1.out hbr⟩⟩
          have h9 := own_baseM Hown.out Hb1.out.size
          rw [← Hmm.out] at h9
          exact h9
set_option maxHeartbeats 1000000 in
theorem model_Forward (g : Nat) (v : Value) (L : List BatP) (sure : Nat) (s : ByteArray) (f c : Int) (w : World) (h : ModR w g v L sure) (hL : L.length ≤ 100000) (hs : s.size ≤ maxLen) (hf : -9223372036854775808 ≤ f ∧ f ≤ 9223372036854775807) (hc : -9223372036854775808 ≤ c ∧ c ≤ 9223372036854775807) :
    Calls Try.prog 9 #[.pointer (some ⟨g, 0, none⟩), .string s, .int .i64 f, .int .i64 c] w fun e w' =>
      (badP s f c = true → e = .returned (.tuple #[.slice none 0 0, .int .i64 2]) ∧ w = w') ∧ (badP s f c = false → PageY w (pageT (streamL L s) f c false) e w') := by
  have HP := Lib.hid (model_page g v L sure s f c false w h hL hs hf hc)
  clear h hf hc
  go_enter Try.func9, Try.ntmps9
  go_wp2_with fail
  refine HP.out.mono ?_
  rintro e w' ⟨h1, h2⟩
  have H1 := Lib.hid h1
  have H2 := Lib.hid h2
  clear h1 h2
  rcases hb : badP s f c with _ | _
  · obtain ⟨v', rfl, h3, h4⟩ := H2.out hb
    have HB := Lib.hid hb
    have H3 := Lib.hid h3
    have H4 := Lib.hid h4
    clear hb h3 h4
    go_wp2
    go_ret2
    rw [HB.out]
    exact ⟨(fun h => by cases h), fun _ => ⟨v', rfl, H3.out, H4.out⟩⟩
  · obtain ⟨rfl, rfl⟩ := H1.out hb
    have HB := Lib.hid hb
    clear hb
    go_wp2
    go_ret2
    rw [HB.out]
    exact ⟨fun _ => ⟨rfl, rfl⟩, fun h => by cases h⟩
set_option maxHeartbeats 1000000 in
theorem model_Backward (g : Nat) (v : Value) (L : List BatP) (sure : Nat) (s : ByteArray) (f c : Int) (w : World) (h : ModR w g v L sure) (hL : L.length ≤ 100000) (hs : s.size ≤ maxLen) (hf : -9223372036854775808 ≤ f ∧ f ≤ 9223372036854775807) (hc : -9223372036854775808 ≤ c ∧ c ≤ 9223372036854775807) :
    Calls Try.prog 12 #[.pointer (some ⟨g, 0, none⟩), .string s, .int .i64 f, .int .i64 c] w fun e w' =>
      (badP s f c = true → e = .returned (.tuple #[.slice none 0 0, .int .i64 2]) ∧ w = w') ∧ (badP s f c = false → PageY w (pageT (streamL L s) f c true) e w') := by
  have HP := Lib.hid (model_page g v L sure s f c true w h hL hs hf hc)
  clear h hf hc
  go_enter Try.func12, Try.ntmps12
  go_wp2_with fail
  refine HP.out.mono ?_
  rintro e w' ⟨h1, h2⟩
  have H1 := Lib.hid h1
  have H2 := Lib.hid h2
  clear h1 h2
  rcases hb : badP s f c with _ | _
  · obtain ⟨v', rfl, h3, h4⟩ := H2.out hb
    have HB := Lib.hid hb
    have H3 := Lib.hid h3
    have H4 := Lib.hid h4
    clear hb h3 h4
    go_wp2
    go_ret2
    rw [HB.out]
    exact ⟨(fun h => by cases h), fun _ => ⟨v', rfl, H3.out, H4.out⟩⟩
  · obtain ⟨rfl, rfl⟩ := H1.out hb
    have HB := Lib.hid hb
    clear hb
    go_wp2
    go_ret2
    rw [HB.out]
    exact ⟨fun _ => ⟨rfl, rfl⟩, fun h => by cases h⟩
end Go.Proofs.Ytmplabhofhllmaa
