/-
  MODEL, the document's: a stream's events; Last; Flush.
-/
import Derived.Test.YtmplabhofhllmaaRefM0
namespace Go.Proofs.Ytmplabhofhllmaa
open Go.RowKit
set_option linter.unusedVariables false

def streamT (T : List Tld) (s : ByteArray) : List Tld := T.filter (ofT s)
theorem streamT_len (T : List Tld) (s : ByteArray) : (streamT T s).length ≤ T.length := List.length_filter_le _ _
set_option maxHeartbeats 2000000 in
theorem refM_Stream (g : Nat) (vL vM : Value) (T : List Tld) (M : List Nat) (sure : Nat) (s : ByteArray) (w : World) (h : RefR w g vL vM T M sure) (hn9 : T.length ≤ 800000) :
    Calls Try.prog 25 #[.pointer (some ⟨g, 0, none⟩), .string s] w fun e w' => ∃ v', e = .returned v' ∧ w'.ownsRow w.heap.size 48 5 v' (streamT T s).length (toldsC (streamT T s)) ∧ Below w.heap.size w w' := by
  obtain ⟨A, c, rfl, -⟩ := id h.2.1.1
  obtain ⟨n, hn⟩ : ∃ n, n = T.length := ⟨_, rfl⟩
  have HT := Lib.hid hn
  have HB := Lib.hid (fun h0 => h.2.1.later h0)
  have hcg : ∀ w', Below w.heap.size w w' → w'.cell? ⟨g, 0, none⟩ = some (.slice A n c) := fun w' hb => by
    have := (h.next hb).cells.1
    rw [← hn] at this
    exact this
  rw [← hn] at hn9
  have HCG := Lib.hid hcg
  obtain ⟨i0, hi0, hz0, hz1, hz2⟩ := info_parts infoTold
  unfold streamT
  clear h hn hcg
  go_enter Try.func25, Try.ntmps25
  go_wp2_with fail
  go_loopw [5, 6] (fun o i wr => ∃ k m : Nat, k ≤ n ∧ m ≤ k ∧ i = .int .i64 (k : Int) ∧ wr.ownsRow w.heap.size 48 5 o m (toldsC ((T.take k).filter (ofT s))) ∧ ((T.take k).filter (ofT s)).length = m ∧ Below w.heap.size w wr) (fun _ i _ => n - (intOf i).toNat)
  case atStart => exact ⟨0, 0, by omega, by omega, rfl, World.ownsRow_nil _ _ _ _, rfl, Below.refl _ _⟩
  case round =>
    obtain ⟨k, m, hk, hm, rfl, hown, hmm, hbr⟩ := hrel
    have z0 := HCG.out _ hbr
    by_cases hlt : k < n
    · obtain ⟨t, ht⟩ : ∃ t, T[k]? = some t := ⟨_, List.getElem?_eq_getElem (by have := HT.out; omega)⟩
      have hst := filter_take_succM (p := ofT s) ht
      obtain ⟨b, off, hA, hlt0, hcell⟩ := HB.out (by have := HT.out; omega)
      subst hA
      obtain ⟨c0, c1, c2, c3, c4⟩ := hcell k t ht wr hbr
      obtain ⟨t1, t2, t3, t4, t5⟩ := t
      dsimp only at c0 c1 c2 c3 c4
      have i1 : (k : Int) < n := by omega
      have Hst := Lib.hid hst
      have Hmm := Lib.hid hmm
      have Hown := Lib.hid hown
      have Hbr := Lib.hid hbr
      have hz1' : Below wr.heap.size wr (wr.alloc (.cells (toldA (t1, t2, t3, t4, t5)) 48)) := lit_below wr _
      have hrd := told_lit wr (t1, t2, t3, t4, t5)
      have Hz1 := Lib.hid hz1'
      have Hrd := Lib.hid hrd
      clear ht hcell hst hmm hown hbr hz1' hrd
      by_cases hs : t1 = s
      · subst hs
        have e1 : (t1.toList == t1.toList) = true := by simp
        have hin : ofT t1 (t1, t2, t3, t4, t5) = true := by simp [ofT]
        go_wp2_with (first
          | (at_builtin; refine wpList_append_reads _ rfl _ _ 28 rfl w.heap.size 48 i0 _ 5 64 Try.underlying28 hi0 hz0 hz1 hz2 rfl (by decide) _ m _ rfl (own_next Hown.out Hz1.out) _ 1 (toldsC [(t1, t2, t3, t4, t5)]) rfl Hrd.out (toldsC_one _) (by unfold maxLen; omega) (by omega) (below_more Hbr.out Hz1.out (Nat.le_refl _)).size ?_; intro v3 w3 hown3 hg3))
        have hb3 := (below_more Hbr.out Hz1.out (Nat.le_refl _)).grown hg3 (below_more Hbr.out Hz1.out (Nat.le_refl _)).size (own_block_ge Hown.out)
        go_wp2
        go_roundw
        case rel =>
          refine ⟨k + 1, m + 1, by omega, by omega, by go_num, ?_, ?_, hb3⟩
          · rw [Hst.out, toldsC_append]
            simpa [hin] using hown3
          · rw [Hst.out, List.length_append, Hmm.out]
            simp [hin]
        case measure => simp [intOf]; omega
      · have e1 : (t1.toList == s.toList) = false := by rw [beq_eq_false_iff_ne, Ne, toList_inj]; exact hs
        have hin : ofT s (t1, t2, t3, t4, t5) = false := by simp [ofT, hs]
        go_wp2
        go_roundw
        case rel =>
          refine ⟨k + 1, m, by omega, by omega, by go_num, ?_, ?_, Hbr.out⟩
          · rw [Hst.out]
            simpa [hin] using Hown.out
          · rw [Hst.out]
            simpa [hin] using Hmm.out
        case measure => simp [intOf]; omega
    · obtain rfl : k = n := by omega
      rw [List.take_of_length_le (by rw [← HT.out]; exact Nat.le_refl _)] at hown hmm
      have Hown := Lib.hid hown
      have Hmm := Lib.hid hmm
      clear hown hmm
      go_wp2
      go_ret
      have h9 := Hown.out
      rw [← Hmm.out] at h9
      exact ⟨_, rfl, h9, hbr⟩
set_option maxHeartbeats 1000000 in
theorem refM_Last (g : Nat) (vL vM : Value) (T : List Tld) (M : List Nat) (sure : Nat) (s : ByteArray) (w : World) (h : RefR w g vL vM T M sure) (hn9 : T.length ≤ 800000) (hs : s.size ≤ maxLen) :
    Calls Try.prog 14 #[.pointer (some ⟨g, 0, none⟩), .string s] w fun e w' => e = .returned (if streamOk s then .tuple #[.int .i64 (((streamT T s).length : Int) - 1), .int .i64 0] else .tuple #[.int .i64 (-1), .int .i64 2]) ∧ Below w.heap.size w w' := by
  have HO := ref_StreamN s w hs
  have HS := refM_Stream g vL vM T M sure s w h hn9
  have hlen := streamT_len T s
  rcases hok : streamOk s with _ | _
  · rw [hok] at HO
    clear h HS hok
    go_enter Try.func14, Try.ntmps14
    go_wp2_with fail
    refine HO.mono ?_
    rintro e w' ⟨rfl, rfl⟩
    go_wp2
    go_ret2
    exact ⟨rfl, Below.refl _ _⟩
  · rw [hok] at HO
    clear h hok
    go_enter Try.func14, Try.ntmps14
    go_wp2_with fail
    refine HO.mono ?_
    rintro e w' ⟨rfl, rfl⟩
    go_wp2_with fail
    refine HS.mono ?_
    rintro e w3 ⟨vt, rfl, hown, hb3⟩
    obtain ⟨A3, c3, rfl, -⟩ := Reads.of_own hown
    have hsz : ((streamT T s).length : Int) ≤ 800000 := by omega
    have Hb3 := Lib.hid hb3
    clear hown hb3 hlen
    go_wp2
    go_ret2
    exact ⟨rfl, Hb3.out⟩
set_option maxHeartbeats 1000000 in
theorem refM_Flush (g : Nat) (vL vM : Value) (T : List Tld) (M : List Nat) (sure : Nat) (w : World) (h : RefR w g vL vM T M sure) :
    Calls Try.prog 16 #[.pointer (some ⟨g, 0, none⟩)] w fun e w' => e = .returned (.tuple #[]) ∧ w' = w.setCell ⟨g, 2, none⟩ (.int .i64 (M.length : Nat)) := by
  obtain ⟨A, c, rfl, -⟩ := id h.2.2
  obtain ⟨z0, z1, z2⟩ := h.cells
  have hfz := h.1.frozen 2 (by simp)
  clear h
  go_enter Try.func16, Try.ntmps16
  go_wp2
  go_end0
  exact ⟨rfl, rfl⟩
end Go.Proofs.Ytmplabhofhllmaa
