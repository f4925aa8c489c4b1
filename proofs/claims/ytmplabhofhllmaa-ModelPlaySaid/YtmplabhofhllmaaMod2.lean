/-
  MODEL: a stream's events; Last; Flush.
-/
import Derived.Test.YtmplabhofhllmaaMod1
namespace Go.Proofs.Ytmplabhofhllmaa
open Go.RowKit
set_option linter.unusedVariables false

def ofT (s : ByteArray) (t : Tld) : Bool := decide (t.1 = s)
def streamL (L : List BatP) (s : ByteArray) : List Tld := (allL L).filter (ofT s)
def lastL (L : List BatP) (s : ByteArray) : Int := ((streamL L s).length : Int) - 1
theorem streamL_len {L : List BatP} (h : ∀ p ∈ L, fineB p.2) (s : ByteArray) : (streamL L s).length ≤ L.length * 8 :=
  Nat.le_trans (List.length_filter_le _ _) (allL_len h)
theorem filter_take_succM {α : Type} {l : List α} {k : Nat} {x : α} {p : α → Bool} (h : l[k]? = some x) : (l.take (k + 1)).filter p = (l.take k).filter p ++ [x].filter p := by
  rw [List.take_add_one, h, List.filter_append]; rfl
set_option maxHeartbeats 2000000 in
theorem model_stream (g : Nat) (v : Value) (L : List BatP) (sure : Nat) (s : ByteArray) (w : World) (h : ModR w g v L sure) (hL : L.length ≤ 100000) :
    Calls Try.prog 29 #[.pointer (some ⟨g, 0, none⟩), .string s] w fun e w' => ∃ v', e = .returned v' ∧ w'.ownsRow w.heap.size 48 5 v' (streamL L s).length (toldsC (streamL L s)) ∧ Below w.heap.size w w' := by
  have HA := model_All g v L sure w h hL
  have hlen := allL_len (fun p hp => (h.2.2 p hp).2)
  have hok := Lib.hid (allL_ok (fun p hp => (h.2.2 p hp).2))
  unfold streamL
  generalize allL L = T at *
  have hn9 : T.length ≤ 800000 := by omega
  obtain ⟨n, hn⟩ : ∃ n, n = T.length := ⟨_, rfl⟩
  rw [← hn] at hn9
  have HT := Lib.hid hn
  obtain ⟨i0, hi0, hz0, hz1, hz2⟩ := info_parts infoTold
  clear h hlen hL hn
  go_enter Try.func29, Try.ntmps29
  go_wp2_with fail
  refine HA.mono ?_
  rintro e w1 ⟨vt, rfl, hown1, hb1⟩
  clear HA
  have hT1 : Tolds w1 vt T := ⟨Reads.of_own hown1, hok.out⟩
  obtain ⟨A, c, rfl, hc1, hc2, -⟩ := id hT1.1
  have hcell := fun h0 => hT1.later h0
  have HB := Lib.hid hcell
  rw [← HT.out] at hc1
  rw [show T.length = n from HT.out.symm] at hown1 ⊢
  have Hb1 := Lib.hid hb1
  clear hcell hT1 hown1 hc2 hb1
  go_wp2_with fail
  go_loopw [5, 11] (fun o i wr => ∃ k m : Nat, k ≤ n ∧ m ≤ k ∧ i = .int .i64 (k : Int) ∧ wr.ownsRow w1.heap.size 48 5 o m (toldsC ((T.take k).filter (ofT s))) ∧ ((T.take k).filter (ofT s)).length = m ∧ Below w1.heap.size w1 wr) (fun _ i _ => n - (intOf i).toNat)
  case atStart => exact ⟨0, 0, by omega, by omega, rfl, World.ownsRow_nil _ _ _ _, rfl, Below.refl _ _⟩
  case round =>
    obtain ⟨k, m, hk, hm, rfl, hown, hmm, hbr⟩ := hrel
    by_cases hlt : k < n
    · obtain ⟨t, ht⟩ : ∃ t, T[k]? = some t := ⟨_, List.getElem?_eq_getElem (by have := HT.out; omega)⟩
      have hst := filter_take_succM (p := ofT s) ht
      obtain ⟨b, off, hA, hlt0, hcell⟩ := HB.out (by have := HT.out; omega)
      subst hA
      obtain ⟨c0, c1, c2, c3, c4⟩ := hcell k t ht wr hbr
      obtain ⟨t1, t2, t3, t4, t5⟩ := t
      dsimp only at c0 c1 c2 c3 c4
      have i1 : (k : Int) < n := by omega
      have Hst := Lib.hid hst
      have Hmm := Lib.hid hmm
      have Hown := Lib.hid hown
      have Hbr := Lib.hid hbr
      have hz1' : Below wr.heap.size wr (wr.alloc (.cells (toldA (t1, t2, t3, t4, t5)) 48)) := lit_below wr _
      have hz2' : Below wr.heap.size wr ((wr.alloc (.cells (toldA (t1, t2, t3, t4, t5)) 48)).alloc (.cells (toldA (t1, t2, t3, t4, t5)) 48)) := lit2_below' wr _ _
      have hrd := told_lit (wr.alloc (.cells (toldA (t1, t2, t3, t4, t5)) 48)) (t1, t2, t3, t4, t5)
      rw [show (wr.alloc (.cells (toldA (t1, t2, t3, t4, t5)) 48)).heap.size = wr.heap.size + 1 from Array.size_push _] at hrd
      have Hz1 := Lib.hid hz1'
      have Hz2 := Lib.hid hz2'
      have Hrd := Lib.hid hrd
      clear ht hcell hst hmm hown hbr hz1' hz2' hrd
      by_cases hs : t1 = s
      · subst hs
        have e1 : (t1.toList == t1.toList) = true := by simp
        have hin : ofT t1 (t1, t2, t3, t4, t5) = true := by simp [ofT]
        have hown2 := own_next Hown.out Hz2.out
        have Hown2 := Lib.hid hown2
        clear hown2
        go_wp2_with (first
          | (at_builtin; refine wpList_append_reads _ rfl _ _ 28 rfl w1.heap.size 48 i0 _ 5 64 Try.underlying28 hi0 hz0 hz1 hz2 rfl (by decide) _ m _ rfl Hown2.out _ 1 (toldsC [(t1, t2, t3, t4, t5)]) rfl Hrd.out (toldsC_one _) (by unfold maxLen; omega) (by omega) (below_chain Hbr.out Hz2.out).size ?_; intro v3 w3 hown3 hg3))
        have hb3 := (below_chain Hbr.out Hz2.out).grown hg3 (below_chain Hbr.out Hz2.out).size (own_block_ge Hown.out)
        go_wp2
        go_roundw
        case rel =>
          refine ⟨k + 1, m + 1, by omega, by omega, by go_num, ?_, ?_, hb3⟩
          · rw [Hst.out, toldsC_append]
            simpa [hin] using hown3
          · rw [Hst.out, List.length_append, Hmm.out]
            simp [hin]
        case measure => simp [intOf]; omega
      · have e1 : (t1.toList == s.toList) = false := by rw [beq_eq_false_iff_ne, Ne, toList_inj]; exact hs
        have hin : ofT s (t1, t2, t3, t4, t5) = false := by simp [ofT, hs]
        go_wp2
        go_roundw
        case rel =>
          refine ⟨k + 1, m, by omega, by omega, by go_num, ?_, ?_, below_chain Hbr.out Hz1.out⟩
          · rw [Hst.out]
            have := own_next Hown.out Hz1.out
            simpa [hin, toldA] using this
          · rw [Hst.out]
            simpa [hin] using Hmm.out
        case measure => simp [intOf]; omega
    · obtain rfl : k = n := by omega
      rw [List.take_of_length_le (by rw [← HT.out]; exact Nat.le_refl _)] at hown hmm
      have Hown := Lib.hid hown
      have Hmm := Lib.hid hmm
      clear hown hmm
      go_wp2
      go_ret
      have h9 := own_baseM Hown.out Hb1.out.size
      rw [← Hmm.out] at h9
      exact ⟨_, rfl, h9, below_chain Hb1.out hbr⟩
set_option maxHeartbeats 1000000 in
theorem model_Last (g : Nat) (v : Value) (L : List BatP) (sure : Nat) (s : ByteArray) (w : World) (h : ModR w g v L sure) (hL : L.length ≤ 100000) (hs : s.size ≤ maxLen) :
    Calls Try.prog 13 #[.pointer (some ⟨g, 0, none⟩), .string s] w fun e w' => e = .returned (if streamOk s then .tuple #[.int .i64 (lastL L s), .int .i64 0] else .tuple #[.int .i64 (-1), .int .i64 2]) ∧ Below w.heap.size w w' := by
  have HN := model_none_no g _ _ w h.1
  have HO := names_Stream s w hs
  have HS := model_stream g v L sure s w h hL
  have hlen := streamL_len (fun p hp => (h.2.2 p hp).2) s
  rcases hok : streamOk s with _ | _
  · rw [hok] at HO
    clear h HS hok
    go_enter Try.func13, Try.ntmps13
    go_wp2_with fail
    refine HN.mono ?_
    rintro e w' ⟨rfl, rfl⟩
    go_wp2_with fail
    refine HO.mono ?_
    rintro e w' ⟨rfl, rfl⟩
    go_wp2
    go_ret2
    exact ⟨rfl, Below.refl _ _⟩
  · rw [hok] at HO
    clear h hok
    go_enter Try.func13, Try.ntmps13
    go_wp2_with fail
    refine HN.mono ?_
    rintro e w' ⟨rfl, rfl⟩
    go_wp2_with fail
    refine HO.mono ?_
    rintro e w' ⟨rfl, rfl⟩
    go_wp2_with fail
    refine HS.mono ?_
    rintro e w3 ⟨vt, rfl, hown, hb3⟩
    obtain ⟨A3, c3, rfl, -⟩ := Reads.of_own hown
    have hsz : ((streamL L s).length : Int) ≤ 800000 := by omega
    have Hb3 := Lib.hid hb3
    clear hown hb3 hlen
    go_wp2
    go_ret2
    exact ⟨rfl, Hb3.out⟩
set_option maxHeartbeats 1000000 in
theorem model_Flush (g : Nat) (v : Value) (L : List BatP) (sure : Nat) (w : World) (h : ModR w g v L sure) :
    Calls Try.prog 15 #[.pointer (some ⟨g, 0, none⟩)] w fun e w' => e = .returned (.tuple #[]) ∧ w' = w.setCell ⟨g, 2, none⟩ (.int .i64 (L.length : Nat)) := by
  obtain ⟨A, c, rfl, -⟩ := id h.2.1
  have HN := model_none_no g _ _ w h.1
  obtain ⟨z0, z1, z2⟩ := h.cells
  have hfz := h.1.frozen 2 (by simp)
  clear h
  go_enter Try.func15, Try.ntmps15
  go_wp2_with fail
  refine HN.mono ?_
  rintro e w' ⟨rfl, rfl⟩
  go_wp2
  go_end0
  exact ⟨rfl, rfl⟩
end Go.Proofs.Ytmplabhofhllmaa
