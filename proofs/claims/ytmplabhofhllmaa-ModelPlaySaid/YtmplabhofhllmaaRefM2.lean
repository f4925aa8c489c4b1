/-
  MODEL, the document's: pages.
-/
import Derived.Test.YtmplabhofhllmaaRefM1
import Derived.Test.YtmplabhofhllmaaModPlain
namespace Go.Proofs.Ytmplabhofhllmaa
open Go.RowKit
set_option linter.unusedVariables false

def docP (S : List Tld) (f c : Int) (d : Bool) (k : Nat) : List Tld :=
  if d then (S.reverse.take k).filter (inPage f c true) else ((S.take k).filter (fun t => decide (f ≤ t.2.1))).take c.toNat
theorem docP_len (S : List Tld) (f c : Int) (d : Bool) (k : Nat) : (docP S f c d k).length ≤ k := by
  unfold docP
  split
  · exact Nat.le_trans (List.length_filter_le _ _) (by rw [List.length_take]; omega)
  · rw [List.length_take]
    have := List.length_filter_le (fun t : Tld => decide (f ≤ t.2.1)) (S.take k)
    rw [List.length_take] at this
    omega
theorem docP_zero (S : List Tld) (f c : Int) (d : Bool) : docP S f c d 0 = [] := by cases d <;> simp [docP]
theorem docP_up_in {S : List Tld} {f c : Int} {k : Nat} {t : Tld} (h : S[k]? = some t) (h1 : f ≤ t.2.1) (h2 : ((docP S f c false k).length : Int) < c) : docP S f c false (k + 1) = docP S f c false k ++ [t] := by
  unfold docP at *
  simp only [Bool.false_eq_true, if_false] at *
  rw [filter_take_succM h]
  simp only [List.filter_cons, h1, decide_true, if_true, List.filter_nil]
  rw [List.length_take] at h2
  generalize (S.take k).filter (fun t => decide (f ≤ t.2.1)) = X at h2 ⊢
  have h3 : X.length < c.toNat := by omega
  rw [List.take_of_length_le (by rw [List.length_append]; simp; omega), List.take_of_length_le (by omega)]
theorem docP_up_low {S : List Tld} {f c : Int} {k : Nat} {t : Tld} (h : S[k]? = some t) (h1 : ¬ f ≤ t.2.1) : docP S f c false (k + 1) = docP S f c false k := by
  unfold docP
  simp only [Bool.false_eq_true, if_false]
  rw [filter_take_succM h]
  simp [h1]
theorem docP_up_full {S : List Tld} {f c : Int} {k : Nat} {t : Tld} (h : S[k]? = some t) (h2 : ¬ ((docP S f c false k).length : Int) < c) : docP S f c false (k + 1) = docP S f c false k := by
  unfold docP at *
  simp only [Bool.false_eq_true, if_false] at *
  rw [filter_take_succM h]
  rw [List.length_take] at h2
  generalize (S.take k).filter (fun t => decide (f ≤ t.2.1)) = X at h2 ⊢
  rw [List.take_append_of_le_length (by omega)]
theorem docP_down_in {S : List Tld} {f c : Int} {k : Nat} {t : Tld} (h : S.reverse[k]? = some t) (h1 : inPage f c true t = true) : docP S f c true (k + 1) = docP S f c true k ++ [t] := by
  unfold docP
  simp only [if_true]
  rw [filter_take_succM h]
  simp [h1]
theorem docP_down_out {S : List Tld} {f c : Int} {k : Nat} {t : Tld} (h : S.reverse[k]? = some t) (h1 : inPage f c true t = false) : docP S f c true (k + 1) = docP S f c true k := by
  unfold docP
  simp only [if_true]
  rw [filter_take_succM h]
  simp [h1]
theorem docP_all {S : List Tld} (h : InRow 0 S) {f c : Int} (hf : 0 ≤ f) (hc : 1 ≤ c) (d : Bool) : docP S f c d S.length = pageT S f c d := by
  obtain ⟨a, rfl⟩ := Int.eq_ofNat_of_zero_le hf
  obtain ⟨b, rfl⟩ := Int.eq_ofNat_of_zero_le (by omega : 0 ≤ c)
  cases d with
  | false =>
    rw [page_up h a b]
    unfold docP
    simp only [Bool.false_eq_true, if_false]
    rw [List.take_of_length_le (Nat.le_refl _), Int.toNat_natCast]
    congr 1
    have h1 := filt_range a S.length S 0 h
    rw [Nat.sub_zero, List.take_of_length_le (by rw [List.length_drop]; omega)] at h1
    rw [← h1]
    refine List.filter_congr fun t ht => ?_
    obtain ⟨i, hi, rfl⟩ := List.getElem_of_mem ht
    have hv := h i _ (List.getElem?_eq_getElem hi)
    have : decide (S[i].2.1 < (S.length : Int)) = true := by rw [hv]; simp; omega
    rw [this, Bool.and_true]
  | true =>
    unfold docP pageT
    simp only [if_true]
    rw [List.take_of_length_le (by rw [List.length_reverse]; exact Nat.le_refl _), List.filter_reverse]
set_option maxRecDepth 100000 in
set_option maxHeartbeats 4000000 in
theorem refM_Page (g : Nat) (vL vM : Value) (T : List Tld) (M : List Nat) (sure : Nat) (s : ByteArray) (f c : Int) (d : Bool) (w : World) (h : RefR w g vL vM T M sure) (hn9 : T.length ≤ 800000) (hs : s.size ≤ maxLen) (hf : -9223372036854775808 ≤ f ∧ f ≤ 9223372036854775807) (hc : -9223372036854775808 ≤ c ∧ c ≤ 9223372036854775807)
    (hrg : ∀ t ∈ streamT T s, 0 ≤ t.2.1 ∧ t.2.1 ≤ 1073741824) :
    Calls Try.prog 10 #[.pointer (some ⟨g, 0, none⟩), .string s, .int .i64 f, .int .i64 c, .bool d] w fun e w' =>
      (badP s f c = true → e = .returned (.tuple #[.slice none 0 0, .int .i64 2]) ∧ w = w') ∧ (badP s f c = false → PageY w (docP (streamT T s) f c d (streamT T s).length) e w') := by
  have HO := ref_StreamN s w hs
  have HS := refM_Stream g vL vM T M sure s w h hn9
  have hlen := streamT_len T s
  have hokT : ∀ t ∈ streamT T s, okT t := fun t ht => h.2.1.2 t (List.mem_filter.1 ht).1
  rcases hok : streamOk s with _ | _
  · have hb : badP s f c = true := by unfold badP; rw [hok]; rfl
    rw [hok] at HO
    have HBB := Lib.hid hb
    clear h HS hok hb hlen hrg hokT hf hc
    go_enter Try.func10, Try.ntmps10
    go_wp2_with fail
    refine HO.mono ?_
    rintro e w' ⟨rfl, rfl⟩
    go_wp2
    go_ret2
    rw [HBB.out]
    exact ⟨fun _ => ⟨rfl, rfl⟩, fun h => by cases h⟩
  · rw [hok] at HO
    by_cases h1 : f < 0 ∨ c < 1
    · have hb : badP s f c = true := by unfold badP; rw [hok]; simpa using h1
      have HBB := Lib.hid hb
      clear h HS hok hb hlen hrg hokT hf hc
      rcases (show f < 0 ∨ (¬ f < 0 ∧ c < 1) from by omega) with h2 | ⟨h2, h3⟩
      all_goals
        clear h1
        go_enter Try.func10, Try.ntmps10
        go_wp2_with fail
        refine HO.mono ?_
        rintro e w' ⟨rfl, rfl⟩
        go_wp2
        go_ret2
        rw [HBB.out]
        exact ⟨fun _ => ⟨rfl, rfl⟩, fun h => by cases h⟩
    · have hb : badP s f c = false := by unfold badP; rw [hok]; simp; omega
      have h2 : ¬ f < 0 := by omega
      have h3 : ¬ c < 1 := by omega
      have HBB := Lib.hid hb
      have HF := Lib.hid hf
      have HC := Lib.hid hc
      generalize streamT T s = S at *
      obtain ⟨n, hn⟩ : ∃ n, n = S.length := ⟨_, rfl⟩
      rw [← hn] at hlen
      have hn8 : n ≤ 800000 := by omega
      have HT := Lib.hid hn
      have HRG := Lib.hid hrg
      have HOK := Lib.hid hokT
      obtain ⟨i0, hi0, hz0, hz1, hz2⟩ := info_parts infoTold
      clear h hok hb hlen hrg hokT hf hc h1 hn9 hn
      go_enter Try.func10, Try.ntmps10
      go_wp2_with fail
      refine HO.mono ?_
      rintro e w' ⟨rfl, rfl⟩
      clear HO
      go_wp2_with fail
      refine HS.mono ?_
      rintro e w1 ⟨vt, rfl, hown1, hb1⟩
      clear HS
      have hT1 : Tolds w1 vt S := ⟨Reads.of_own hown1, HOK.out⟩
      obtain ⟨A, ca, rfl, -⟩ := id hT1.1
      have HB := Lib.hid (fun h0 => hT1.later h0)
      rw [show S.length = n from HT.out.symm] at hown1 ⊢
      have Hb1 := Lib.hid hb1
      clear hT1 hown1 hb1
      go_wp2_with fail
      go_loopw [13, 14] (fun o i wr => ∃ k m : Nat, k ≤ n ∧ m ≤ k ∧ i = .int .i64 (k : Int) ∧ wr.ownsRow w1.heap.size 48 5 o m (toldsC (docP S f c d k)) ∧ (docP S f c d k).length = m ∧ Below w1.heap.size w1 wr) (fun _ i _ => n - (intOf i).toNat)
      case atStart => exact ⟨0, 0, by omega, by omega, rfl, by rw [docP_zero]; exact World.ownsRow_nil _ _ _ _, by rw [docP_zero]; rfl, Below.refl _ _⟩
      case round =>
        obtain ⟨k, m, hk, hm, rfl, hown, hmm, hbr⟩ := hrel
        by_cases hlt : k < n
        · obtain ⟨b, off, hA, hlt0, hcell⟩ := HB.out (by have := HT.out; omega)
          subst hA
          obtain ⟨ov, cvv, rfl, -⟩ := Reads.of_own hown
          have Hmm := Lib.hid hmm
          have Hown := Lib.hid hown
          have Hbr := Lib.hid hbr
          have i1 : (k : Int) < n := by omega
          have i2 : (n : Int) - 1 - (k : Int) = ((n - 1 - k : Nat) : Int) := by omega
          have i3 : ((n - 1 - k : Nat) : Int) < n := by omega
          cases d with
          | false =>
            obtain ⟨t, ht⟩ : ∃ t, S[k]? = some t := ⟨_, List.getElem?_eq_getElem (by have := HT.out; omega)⟩
            obtain ⟨c0, c1, c2, c3, c4⟩ := hcell k t ht wr hbr
            have htr := HRG.out t (List.mem_of_getElem? ht)
            obtain ⟨t1, t2, t3, t4, t5⟩ := t
            dsimp only at c0 c1 c2 c3 c4 htr
            have hz1' : Below wr.heap.size wr (wr.alloc (.cells (toldA (t1, t2, t3, t4, t5)) 48)) := lit_below wr _
            have hrd := told_lit wr (t1, t2, t3, t4, t5)
            have Hz1 := Lib.hid hz1'
            have Hrd := Lib.hid hrd
            clear hcell hz1' hrd htr hown hbr
            by_cases g1 : f ≤ t2
            · by_cases g2 : (m : Int) < c
              · have HST := Lib.hid (docP_up_in (c := c) ht g1 (by rw [hmm]; exact g2))
                clear hmm ht
                go_wp2_with (first | (at_builtin; refine wpList_append_reads _ rfl _ _ 28 rfl w1.heap.size 48 i0 _ 5 64 Try.underlying28 hi0 hz0 hz1 hz2 rfl (by decide) _ m _ rfl (own_next Hown.out Hz1.out) _ 1 (toldsC [(t1, t2, t3, t4, t5)]) rfl Hrd.out (toldsC_one _) (by unfold maxLen; omega) (by omega) (below_chain Hbr.out Hz1.out).size ?_; intro v3 w3 hown3 hg3))
                have hb3 := (below_chain Hbr.out Hz1.out).grown hg3 (below_chain Hbr.out Hz1.out).size (own_block_ge Hown.out)
                go_wp2
                go_roundw
                case rel => exact ⟨k + 1, m + 1, by omega, by omega, by go_num, by rw [HST.out, toldsC_append]; exact hown3, by rw [HST.out, List.length_append, Hmm.out]; rfl, hb3⟩
                case measure => simp [intOf]; omega
              · have HST := Lib.hid (docP_up_full (f := f) (c := c) ht (by rw [hmm]; exact g2))
                clear hmm ht
                go_wp2
                go_roundw
                case rel => exact ⟨k + 1, m, by omega, by omega, by go_num, by rw [HST.out]; exact Hown.out, by rw [HST.out]; exact Hmm.out, Hbr.out⟩
                case measure => simp [intOf]; omega
            · have HST := Lib.hid (docP_up_low (c := c) ht g1)
              clear hmm ht
              go_wp2
              go_roundw
              case rel => exact ⟨k + 1, m, by omega, by omega, by go_num, by rw [HST.out]; exact Hown.out, by rw [HST.out]; exact Hmm.out, Hbr.out⟩
              case measure => simp [intOf]; omega
          | true =>
            obtain ⟨t, ht⟩ : ∃ t, S.reverse[k]? = some t := ⟨_, List.getElem?_eq_getElem (by rw [List.length_reverse]; have := HT.out; omega)⟩
            have ht9 : S[n - 1 - k]? = some t := by
              rw [List.getElem?_reverse (by have := HT.out; omega)] at ht
              rw [HT.out]; exact ht
            obtain ⟨c0, c1, c2, c3, c4⟩ := hcell (n - 1 - k) t ht9 wr hbr
            have htr := HRG.out t (List.mem_of_getElem? ht9)
            obtain ⟨t1, t2, t3, t4, t5⟩ := t
            dsimp only at c0 c1 c2 c3 c4 htr
            obtain ⟨e9, he9⟩ : ∃ e9, e9 = n - 1 - k := ⟨_, rfl⟩
            rw [← he9] at c0 c1 c2 c3 c4 i2 i3
            have hz1' : Below wr.heap.size wr (wr.alloc (.cells (toldA (t1, t2, t3, t4, t5)) 48)) := lit_below wr _
            have hrd := told_lit wr (t1, t2, t3, t4, t5)
            have Hz1 := Lib.hid hz1'
            have Hrd := Lib.hid hrd
            obtain ⟨z, hz⟩ : ∃ z, z = f - t2 := ⟨_, rfl⟩
            have hw1 : IntKind.i64.wrap (f - t2) = z := by rw [IntKind.wrap_i64]; have := HF.out; omega
            have hw2 : wrap64 (f - t2) = z := by unfold wrap64; have := HF.out; omega
            have HZ := Lib.hid hz
            clear hcell hz1' hrd htr hown hbr ht9 he9 hz
            by_cases g1 : t2 ≤ f
            · by_cases g2 : z < c
              · have HST := Lib.hid (docP_down_in (f := f) (c := c) ht (by have := HZ.out; unfold inPage; simp; omega))
                clear hmm ht
                go_wp2_with (first | (at_builtin; refine wpList_append_reads _ rfl _ _ 28 rfl w1.heap.size 48 i0 _ 5 64 Try.underlying28 hi0 hz0 hz1 hz2 rfl (by decide) _ m _ rfl (own_next Hown.out Hz1.out) _ 1 (toldsC [(t1, t2, t3, t4, t5)]) rfl Hrd.out (toldsC_one _) (by unfold maxLen; omega) (by omega) (below_chain Hbr.out Hz1.out).size ?_; intro v3 w3 hown3 hg3))
                have hb3 := (below_chain Hbr.out Hz1.out).grown hg3 (below_chain Hbr.out Hz1.out).size (own_block_ge Hown.out)
                go_wp2
                go_roundw
                case rel => exact ⟨k + 1, m + 1, by omega, by omega, by go_num, by rw [HST.out, toldsC_append]; exact hown3, by rw [HST.out, List.length_append, Hmm.out]; rfl, hb3⟩
                case measure => simp [intOf]; omega
              · have HST := Lib.hid (docP_down_out (f := f) (c := c) ht (by have := HZ.out; unfold inPage; simp; omega))
                clear hmm ht
                go_wp2
                go_roundw
                case rel => exact ⟨k + 1, m, by omega, by omega, by go_num, by rw [HST.out]; exact Hown.out, by rw [HST.out]; exact Hmm.out, Hbr.out⟩
                case measure => simp [intOf]; omega
            · have HST := Lib.hid (docP_down_out (f := f) (c := c) ht (by have := HZ.out; unfold inPage; simp; omega))
              clear hmm ht
              go_wp2
              go_roundw
              case rel => exact ⟨k + 1, m, by omega, by omega, by go_num, by rw [HST.out]; exact Hown.out, by rw [HST.out]; exact Hmm.out, Hbr.out⟩
              case measure => simp [intOf]; omega
        · obtain rfl : k = n := by omega
          have Hown := Lib.hid hown
          have Hmm := Lib.hid hmm
          clear hown hmm
          go_wp2
          go_ret2
          rw [HBB.out]
          refine ⟨(fun h => by cases h), fun _ => ⟨_, rfl, ?_, below_chain Hb1.out hbr⟩⟩
          have h9 := own_baseM Hown.out Hb1.out.size
          rw [← Hmm.out, HT.out] at h9
          exact h9
end Go.Proofs.Ytmplabhofhllmaa
