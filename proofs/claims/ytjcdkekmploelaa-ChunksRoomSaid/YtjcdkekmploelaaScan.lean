/-
  Which records stand in a chunk: the program's Scan and the reference's, by one contract.
-/
import Derived.Test.YtjcdkekmploelaaChunk
namespace Go.Proofs.Ytjcdkekmploelaa
open Go.RowKit
set_option linter.unusedVariables false

def ScanTold (l : List UInt8) (n : Int) (w : World) (e : Ending) (w' : World) : Prop :=
  ∃ v, e = .returned (.tuple #[v, .int .i64 (cEnd l n), .bool (cOk l n)]) ∧ Reads w' v 1 (cAt l n).length (natsC (cAt l n)) ∧ Below w.heap.size w w'
theorem scan_none {l : List UInt8} {n : Int} {w w' : World} {o : Bool} (h : cFull l n = false) (ho : cOk l n = o) (hb : Below w.heap.size w w') : ScanTold l n w (.returned (.tuple #[.slice none 0 0, .int .i64 0, .bool o])) w' := by
  have h1 : cAt l n = [] := by unfold cAt; rw [h]; rfl
  have h2 : cEnd l n = 0 := by unfold cEnd; rw [h]; rfl
  unfold ScanTold
  rw [h1, h2, ho]
  exact ⟨_, rfl, Reads.nil _ _, hb⟩
theorem scan_full {l : List UInt8} {n : Int} {w w' : World} {v : Value} (h : cFull l n = true) (hr : Reads w' v 1 (wAt l 12).length (natsC (wAt l 12))) (hb : Below w.heap.size w w') : ScanTold l n w (.returned (.tuple #[v, .int .i64 (wEnd l 12), .bool true])) w' := by
  have h1 : cAt l n = wAt l 12 := by unfold cAt; rw [h]; rfl
  have h2 : cEnd l n = wEnd l 12 := by unfold cEnd; rw [h]; rfl
  have h3 : cOk l n = true := by
    unfold cFull at h; unfold cOk
    rw [Bool.and_eq_true] at h
    rw [h.1, h.2]; rfl
  unfold ScanTold
  rw [h1, h2, h3]
  exact ⟨_, rfl, hr, hb⟩

set_option maxHeartbeats 1000000 in
theorem chunks_Scan (s : ByteArray) (n : Int) (w : World) (hs : s.size ≤ 1000000000000) (hn : -9223372036854775808 ≤ n ∧ n ≤ 9223372036854775807) :
    Calls Try.prog 26 #[.string s, .int .i64 n] w (ScanTold (lb s) n w) := by
  have hhl : headL n = [] ∨ (headL n).length = 12 := by
    by_cases h : n < 0 ∨ 199 < n
    · exact .inl (headL_no h)
    · obtain ⟨k, rfl⟩ := Int.eq_ofNat_of_zero_le (a := n) (by omega)
      exact .inr (headL_length (by omega))
  have hf : cFull (lb s) n = ((headL n != []) && pre (lb s) (headL n)) := rfl
  have ho : cOk (lb s) n = ((headL n != []) && (pre (lb s) (headL n) || pre (headL n) (lb s))) := rfl
  have hH := chunks_Head n w hn
  generalize headL n = H at hhl hf ho hH
  have Hf := Lib.hid hf
  have Ho := Lib.hid ho
  have HH := Lib.hid hH
  clear hf ho hH
  have hss : s.size ≤ maxLen := by unfold maxLen; omega
  rcases hhl with rfl | hl
  · go_enter Try.func26, Try.ntmps26
    go_wp2_with fail
    refine (HH.out).mono ?_
    rintro e w1 ⟨rfl, hb1⟩
    go_wp2
    go_ret3
    exact scan_none (by rw [Hf.out]; rfl) (by rw [Ho.out]; rfl) hb1
  · have hne : (H != []) = true := by rw [bne_iff_ne]; rintro rfl; simp at hl
    have hne2 : (H == []) = false := by rw [beq_eq_false_iff_ne]; rintro rfl; simp at hl
    have hHs : (bs H).size ≤ maxLen := by rw [size_bs, hl]; decide
    have Hne := Lib.hid hne
    have Hss := Lib.hid hss
    have HHs := Lib.hid hHs
    clear hne hss hHs
    rcases h1 : pre (lb s) H with _ | _
    · rcases h2 : pre H (lb s) with _ | _
      all_goals
        have H1 := Lib.hid h1
        have H2 := Lib.hid h2
        clear h1 h2
        go_enter Try.func26, Try.ntmps26
        go_wp2_with fail
        refine (HH.out).mono ?_
        rintro e w1 ⟨rfl, hb1⟩
        go_wp2_with fail
        refine (hasPrefix _ _ _ Hss.out HHs.out).mono ?_
        rintro e w' ⟨rfl, rfl⟩
        rw [lb_bs, H1.out]
        go_wp2_with fail
        refine (hasPrefix _ _ _ HHs.out Hss.out).mono ?_
        rintro e w' ⟨rfl, rfl⟩
        rw [lb_bs, H2.out]
        go_wp2
        go_ret3
        exact scan_none (by rw [Hf.out, H1.out]; simp) (by rw [Ho.out, Hne.out, H1.out, H2.out]; rfl) hb1
    · have H1 := Lib.hid h1
      clear h1
      go_enter Try.func26, Try.ntmps26
      go_wp2_with fail
      refine (HH.out).mono ?_
      rintro e w1 ⟨rfl, hb1⟩
      go_wp2_with fail
      refine (hasPrefix _ _ _ Hss.out HHs.out).mono ?_
      rintro e w' ⟨rfl, rfl⟩
      rw [lb_bs, H1.out]
      go_wp2_with fail
      refine (records_Whole _ _ _ hs (by decide)).mono ?_
      rintro e w2 ⟨v2, rfl, hr2, hb2⟩
      go_wp2
      go_ret3
      exact scan_full (by rw [Hf.out, H1.out, Hne.out]; rfl) hr2 (below_chain hb1 hb2)

set_option maxHeartbeats 1000000 in
theorem ref_Scan (s : ByteArray) (n : Int) (w : World) (hs : s.size ≤ 1000000000000) (hn : -9223372036854775808 ≤ n ∧ n ≤ 9223372036854775807) :
    Calls Try.prog 27 #[.string s, .int .i64 n] w (ScanTold (lb s) n w) := by
  have hhl : headL n = [] ∨ (headL n).length = 12 := by
    by_cases h : n < 0 ∨ 199 < n
    · exact .inl (headL_no h)
    · obtain ⟨k, rfl⟩ := Int.eq_ofNat_of_zero_le (a := n) (by omega)
      exact .inr (headL_length (by omega))
  have hf : cFull (lb s) n = ((headL n != []) && pre (lb s) (headL n)) := rfl
  have ho : cOk (lb s) n = ((headL n != []) && (pre (lb s) (headL n) || pre (headL n) (lb s))) := rfl
  have hH := ref_Head n w hn
  generalize headL n = H at hhl hf ho hH
  have Hf := Lib.hid hf
  have Ho := Lib.hid ho
  have HH := Lib.hid hH
  clear hf ho hH
  rcases hhl with rfl | hl
  · go_enter Try.func27, Try.ntmps27
    go_wp2_with fail
    refine (HH.out).mono ?_
    rintro e w1 ⟨rfl, hb1⟩
    go_wp2
    go_ret3
    exact scan_none (by rw [Hf.out]; rfl) (by rw [Ho.out]; rfl) hb1
  · have hne : (H != []) = true := by rw [bne_iff_ne]; rintro rfl; simp at hl
    have hne2 : (H == []) = false := by rw [beq_eq_false_iff_ne]; rintro rfl; simp at hl
    have Hne := Lib.hid hne
    clear hne
    by_cases hlt : s.size < 12
    · have hp1 : pre (lb s) H = false := by unfold pre; rw [length_lb, hl, decide_eq_false (by omega)]; rfl
      have hp2 : pre H (lb s) = (H.take s.size == lb s) := by unfold pre; rw [length_lb, hl, decide_eq_true (by omega), Bool.true_and]
      have hmin : (if (12 : Int) < s.size then (12 : Int) else (s.size : Int)) = (s.size : Int) := by rw [if_neg (by omega)]
      have hc1 : (s.toList == ((bs H).extract 0 s.size).toList) = (H.take s.size == lb s) := by
        rw [bs_extract, toList_bs, Nat.sub_zero, List.drop_zero, lb_bs, toList_lb, Bool.eq_iff_iff, beq_iff_eq, beq_iff_eq]
        exact eq_comm
      have i1 : (s.size : Int) < 12 := by omega
      have i2 : (s.size : Int) ≤ 12 := by omega
      rcases h2 : (H.take s.size == lb s) with _ | _
      all_goals
        rw [h2] at hp2 hc1
        have H1 := Lib.hid hp1
        have H2 := Lib.hid hp2
        clear hp1 hp2 h2
        go_enter Try.func27, Try.ntmps27
        go_wp2_with fail
        refine (HH.out).mono ?_
        rintro e w1 ⟨rfl, hb1⟩
        go_wp2_with fail
        go_quiet (fail)
        go_wp2
        go_ret3
        exact scan_none (by rw [Hf.out, H1.out]; simp) (by rw [Ho.out, Hne.out, H1.out, H2.out]; rfl) (below_drewN hb1 _)
    · have hp1 : pre (lb s) H = ((lb s).take 12 == H) := by unfold pre; rw [length_lb, hl, decide_eq_true (by omega), Bool.true_and]
      have hmin : (if (12 : Int) < s.size then (12 : Int) else (s.size : Int)) = 12 := by split <;> omega
      have hc1 : ((s.extract 0 12).toList == ((bs H).extract 0 12).toList) = ((lb s).take 12 == H) := by
        rw [bs_extract, bs_extract, toList_bs, toList_bs, List.drop_zero, Nat.sub_zero, List.drop_zero, lb_bs, List.take_of_length_le (l := H) (by omega)]
      have hc2 : ((s.extract 0 12).toList == H) = ((lb s).take 12 == H) := by
        rw [bs_extract, toList_bs, List.drop_zero, Nat.sub_zero]
      have i2 : (12 : Int) ≤ s.size := by omega
      rcases h2 : ((lb s).take 12 == H) with _ | _
      · have hp2 : pre H (lb s) = false := by
          rcases h3 : pre H (lb s) with _ | _
          · rfl
          · exfalso
            unfold pre at h3
            rw [Bool.and_eq_true, decide_eq_true_iff, beq_iff_eq, length_lb] at h3
            rw [beq_eq_false_iff_ne] at h2
            apply h2
            rw [← h3.2, List.take_take, Nat.min_eq_left (by omega)]
            exact List.take_of_length_le (by omega)
        rw [h2] at hp1 hc1 hc2
        have H1 := Lib.hid hp1
        have H2 := Lib.hid hp2
        clear hp1 hp2 h2
        go_enter Try.func27, Try.ntmps27
        go_wp2_with fail
        refine (HH.out).mono ?_
        rintro e w1 ⟨rfl, hb1⟩
        go_wp2_with fail
        go_quiet (fail)
        go_wp2
        go_ret3
        exact scan_none (by rw [Hf.out, H1.out]; simp) (by rw [Ho.out, Hne.out, H1.out, H2.out]; rfl) (below_drewN hb1 _)
      · rw [h2] at hp1 hc1 hc2
        have H1 := Lib.hid hp1
        clear hp1 h2
        go_enter Try.func27, Try.ntmps27
        go_wp2_with fail
        refine (HH.out).mono ?_
        rintro e w1 ⟨rfl, hb1⟩
        go_wp2_with fail
        go_quiet (fail)
        go_wp2_with fail
        refine (ref_Whole _ _ _ hs (by decide)).mono ?_
        rintro e w2 ⟨v2, rfl, hr2, hb2⟩
        go_wp2
        go_ret3
        exact scan_full (by rw [Hf.out, H1.out, Hne.out]; rfl) hr2 (below_chain (below_drewN hb1 _) hb2)
end Go.Proofs.Ytjcdkekmploelaa
