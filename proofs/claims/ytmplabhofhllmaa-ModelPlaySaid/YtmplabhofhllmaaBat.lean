/-
  BATCHES: what they are in memory; what is wrong with one.
-/
import Derived.Test.YtmplabhofhllmaaEvsB
import Derived.Test.YtmplabhofhllmaaBatLaw
namespace Go.Proofs.Ytmplabhofhllmaa
open Go.RowKit
set_option linter.unusedVariables false

theorem box3 (w : World) (a b c : Value) (t : TypeId) (w' : World) (hb : Below (w.alloc (.cells #[a, b, c] t)).heap.size (w.alloc (.cells #[a, b, c] t)) w') :
    w'.cell? ⟨w.heap.size, 0, none⟩ = some a ∧ w'.cell? ⟨w.heap.size, 1, none⟩ = some b ∧ w'.cell? ⟨w.heap.size, 2, none⟩ = some c := by
  have hblk : (w.alloc (.cells #[a, b, c] t)).heap[w.heap.size]? = some (.cells #[a, b, c] t (0, 0)) := heap_alloc_new w _
  have h : ∀ j v, (#[a, b, c] : Array Value)[j]? = some v → w'.cell? ⟨w.heap.size, j, none⟩ = some v := fun j v h => by
    refine (hb.cell (p := ⟨w.heap.size, j, none⟩) (Array.getElem?_eq_some_iff.1 hblk).1).trans ?_
    unfold World.cell?
    rw [hblk]
    simpa using h
  exact ⟨h 0 _ rfl, h 1 _ rfl, h 2 _ rfl⟩
/-- A batch's value. -/
def BatV (w : World) (v : Value) (b : Bat) : Prop := ∃ A c, v = .agg #[.string b.1, .int .i64 b.2.1, .slice A b.2.2.length c] ∧ Evs w (.slice A b.2.2.length c) b.2.2 ∧ b.1.size ≤ maxLen ∧ -9223372036854775808 ≤ b.2.1 ∧ b.2.1 ≤ 9223372036854775807
theorem BatV.next {w w' : World} {v : Value} {b : Bat} (h : BatV w v b) (hb : Below w.heap.size w w') : BatV w' v b := by
  obtain ⟨A, c, h1, h2, h3⟩ := h
  exact ⟨A, c, h1, h2.next hb, h3⟩
theorem BatV.okB {w : World} {v : Value} {b : Bat} (h : BatV w v b) : okB b := by
  obtain ⟨A, c, h1, h2, h3, h4, h5⟩ := h
  exact ⟨h3, ⟨h4, h5⟩, h2.2⟩

set_option maxHeartbeats 1000000 in
theorem batches_Check (v : Value) (b : Bat) (w : World) (h : BatV w v b) :
    Calls Try.prog 32 #[v] w fun e w' => e = .returned (.int .i64 (checkB b)) ∧ Below w.heap.size w w' := by
  obtain ⟨s, f, l⟩ := b
  obtain ⟨A, c, rfl, hE, hs, hf1, hf2⟩ := h
  simp only [] at hE hs hf1 hf2 ⊢
  obtain ⟨-, hc1, hc2, -⟩ := Reads.each evL_len hE.1
  unfold maxLen at hc2 hs
  have hz := lit_below w (.cells #[.string s, .int .i64 f, .slice A l.length c] 65)
  have hL := fun h0 => hE.later h0
  have ok := hE.2
  by_cases z : s.size = 0
  · have e1 : (s.toList == []) = true := by rw [toList_nil z]; rfl
    have hr : checkB (s, f, l) = 2 := by unfold checkB; rw [if_pos (.inl z)]
    rw [hr]; clear hr
    go_enter Try.func32, Try.ntmps32
    go_wp2_with fail
    go_step3
    go_wp2
    try rw [Exit.noGoto_ret]
    go_ret
    exact ⟨rfl, hz⟩
  · have e1 : (s.toList == []) = false := by rw [beq_eq_false_iff_ne]; exact toList_ne z
    by_cases z2 : l.length = 0
    · have e2 : (l.length : Int) = 0 := by omega
      have hr : checkB (s, f, l) = 2 := by unfold checkB; rw [if_pos (.inr z2)]
      rw [hr]; clear hr
      go_enter Try.func32, Try.ntmps32
      go_wp2_with fail
      go_step3
      go_wp2
      try rw [Exit.noGoto_ret]
      go_ret
      exact ⟨rfl, by rw [z2] at hz; exact hz⟩
    · have e2 : ¬ (l.length : Int) = 0 := by omega
      have e2' : ((l.length : Int) == 0) = false := by rw [beq_eq_false_iff_ne]; exact e2
      by_cases z3 : 32 < s.size
      · have e3 : (32 : Int) < s.size := by omega
        have hr : checkB (s, f, l) = 3 := by unfold checkB; rw [if_neg (by simp only []; omega), if_pos (.inl z3)]
        rw [hr]; clear hr
        go_enter Try.func32, Try.ntmps32
        go_wp2_with fail
        go_step3
        go_wp2
        try rw [Exit.noGoto_ret]
        go_ret
        exact ⟨rfl, hz⟩
      · have e3 : ¬ (32 : Int) < s.size := by omega
        by_cases z4 : 8 < l.length
        · have e4 : (8 : Int) < l.length := by omega
          have hr : checkB (s, f, l) = 3 := by unfold checkB; rw [if_neg (by simp only []; omega), if_pos (.inr z4)]
          rw [hr]; clear hr
          go_enter Try.func32, Try.ntmps32
          go_wp2_with fail
          go_step3
          go_wp2
          try rw [Exit.noGoto_ret]
          go_ret
          exact ⟨rfl, hz⟩
        · have e4 : ¬ (8 : Int) < l.length := by omega
          by_cases z5 : f < 0
          · have hr : checkB (s, f, l) = 2 := by unfold checkB; rw [if_neg (by simp only []; omega), if_neg (by simp only []; omega), if_pos (.inl z5)]
            rw [hr]; clear hr
            go_enter Try.func32, Try.ntmps32
            go_wp2_with fail
            go_step3
            go_wp2
            try rw [Exit.noGoto_ret]
            go_ret
            exact ⟨rfl, hz⟩
          · by_cases z6 : 1073741824 - (l.length : Int) < f
            · have hr : checkB (s, f, l) = 2 := by unfold checkB; rw [if_neg (by simp only []; omega), if_neg (by simp only []; omega), if_pos (.inr z6)]
              have w1 : IntKind.i64.wrap (1073741824 - (l.length : Int)) = 1073741824 - (l.length : Int) := by rw [IntKind.wrap_i64]; omega
              rw [hr]; clear hr
              go_enter Try.func32, Try.ntmps32
              go_wp2_with fail
              go_step3
              go_wp2
              try rw [Exit.noGoto_ret]
              go_ret
              exact ⟨rfl, hz⟩
            · have hr : checkB (s, f, l) = badL l := by unfold checkB; rw [if_neg (by simp only []; omega), if_neg (by simp only []; omega), if_neg (by simp only []; omega)]
              have w1 : IntKind.i64.wrap (1073741824 - (l.length : Int)) = 1073741824 - (l.length : Int) := by rw [IntKind.wrap_i64]; omega
              rw [hr]; clear hr
              obtain ⟨n, hN⟩ : ∃ n, n = l.length := ⟨_, rfl⟩
              rw [← hN] at e2 e2' e4 z4 z2 z6 w1 hc1 hz ⊢
              have Hn := Lib.hid hN
              have HL := Lib.hid hL
              have Hok := Lib.hid ok
              clear hN hL ok hE
              go_enter Try.func32, Try.ntmps32
              go_wp2_with fail
              go_step3
              go_wp2_with fail
              go_step3
              go_wp2_with fail
              go_loopw [2, 36] (fun r i wr => ∃ k : Nat, k ≤ n ∧ i = .int .i64 (k : Int) ∧ r = .int .i64 0 ∧ badL (l.take k) = 0 ∧ Below w.heap.size w wr) (fun _ i _ => n - (intOf i).toNat)
              case atStart => exact ⟨0, by omega, rfl, rfl, rfl, hz⟩
              case round =>
                obtain ⟨k, hk, rfl, rfl, hbad, hbr⟩ := hrel
                have Hbad := Lib.hid hbad
                clear hbad
                by_cases hlt : k < n
                · obtain ⟨e, he⟩ : ∃ e, l[k]? = some e := ⟨_, List.getElem?_eq_getElem (by have := Hn.out; omega)⟩
                  obtain ⟨b, off, rfl, -, hc⟩ := HL.out (by have := Hn.out; omega)
                  obtain ⟨c0, c1, c2⟩ := hc k e he wr hbr
                  have hk2 := fun w => events_Check e w (Hok.out e (List.mem_of_getElem? he))
                  have hm := badL_more Hbad.out he
                  have hbx := ev_box wr e 46
                  have hz2 := lit_below wr (.cells (evC e) 46)
                  have i1 : (k : Int) < n := by omega
                  generalize checkV e = ck at hk2 hm
                  obtain ⟨e1, e2, e3⟩ := e
                  unfold evC at hk2 hbx hz2
                  simp only [] at c0 c1 c2 hk2 hbx hz2
                  have Hm := Lib.hid hm
                  clear he hc hm
                  obtain ⟨x0, x1, x2⟩ := hbx _ (Below.refl _ _)
                  by_cases h0 : ck = 0
                  · have hnext := Hm.out.1 h0
                    subst h0
                    have Hnext := Lib.hid hnext
                    clear hnext
                    go_wp2_with fail
                    refine (hk2 _).mono ?_
                    rintro y w2 ⟨rfl, hb2⟩
                    go_wp2
                    go_roundw
                    case rel => exact ⟨k + 1, by omega, by go_num, rfl, Hnext.out, below_chain hbr (below_chain hz2 hb2)⟩
                    case measure => simp [intOf]; omega
                  · have hend := Hm.out.2 h0
                    have h0' : (ck == 0) = false := by rw [beq_eq_false_iff_ne]; exact h0
                    have Hend := Lib.hid hend
                    clear hend
                    go_wp2_with fail
                    refine (hk2 _).mono ?_
                    rintro y w2 ⟨rfl, hb2⟩
                    go_wp2
                    try rw [Exit.noGoto_ret]
                    go_ret
                    exact ⟨ret_int Hend.out.symm, below_chain hbr (below_chain hz2 hb2)⟩
                · have i1 : ¬ (k : Int) < n := by omega
                  have h0 : badL l = 0 := by have := Hbad.out; rwa [List.take_of_length_le (by have := Hn.out; omega)] at this
                  have H0 := Lib.hid h0
                  clear h0
                  go_wp2
                  try rw [Exit.noGoto_ret]
                  go_ret
                  exact ⟨ret_int H0.out.symm, hbr⟩

set_option maxHeartbeats 1000000 in
theorem refB_Check (v : Value) (b : Bat) (w : World) (h : BatV w v b) :
    Calls Try.prog 34 #[v] w fun e w' => e = .returned (.int .i64 (checkB b)) ∧ Below w.heap.size w w' := by
  obtain ⟨s, f, l⟩ := b
  obtain ⟨A, c, rfl, hE, hs, hf1, hf2⟩ := h
  simp only [] at hE hs hf1 hf2 ⊢
  obtain ⟨-, hc1, hc2, -⟩ := Reads.each evL_len hE.1
  unfold maxLen at hc2 hs
  have hz := lit_below w (.cells #[.string s, .int .i64 f, .slice A l.length c] 65)
  have hL := fun h0 => hE.later h0
  have ok := hE.2
  by_cases z : s.size = 0
  · have e1 : (s.size : Int) = 0 := by omega
    have hr : checkB (s, f, l) = 2 := by unfold checkB; rw [if_pos (.inl z)]
    rw [hr]; clear hr
    go_enter Try.func34, Try.ntmps34
    go_wp2
    go_ret
    exact ⟨rfl, hz⟩
  · have e1 : ¬ (s.size : Int) = 0 := by omega
    have e1' : ((s.size : Int) == 0) = false := by rw [beq_eq_false_iff_ne]; exact e1
    by_cases z2 : l.length = 0
    · have e2 : (l.length : Int) = 0 := by omega
      have hr : checkB (s, f, l) = 2 := by unfold checkB; rw [if_pos (.inr z2)]
      rw [hr]; clear hr
      go_enter Try.func34, Try.ntmps34
      go_wp2
      go_ret
      exact ⟨rfl, by rw [z2] at hz; exact hz⟩
    · have e2 : ¬ (l.length : Int) = 0 := by omega
      have e2' : ((l.length : Int) == 0) = false := by rw [beq_eq_false_iff_ne]; exact e2
      by_cases z3 : 32 < s.size
      · have e3 : (32 : Int) < s.size := by omega
        have hr : checkB (s, f, l) = 3 := by unfold checkB; rw [if_neg (by simp only []; omega), if_pos (.inl z3)]
        rw [hr]; clear hr
        go_enter Try.func34, Try.ntmps34
        go_wp2
        go_ret
        exact ⟨rfl, hz⟩
      · have e3 : ¬ (32 : Int) < s.size := by omega
        by_cases z4 : 8 < l.length
        · have e4 : (8 : Int) < l.length := by omega
          have hr : checkB (s, f, l) = 3 := by unfold checkB; rw [if_neg (by simp only []; omega), if_pos (.inr z4)]
          rw [hr]; clear hr
          go_enter Try.func34, Try.ntmps34
          go_wp2
          go_ret
          exact ⟨rfl, hz⟩
        · have e4 : ¬ (8 : Int) < l.length := by omega
          by_cases z5 : f < 0
          · have hr : checkB (s, f, l) = 2 := by unfold checkB; rw [if_neg (by simp only []; omega), if_neg (by simp only []; omega), if_pos (.inl z5)]
            rw [hr]; clear hr
            go_enter Try.func34, Try.ntmps34
            go_wp2
            go_ret
            exact ⟨rfl, hz⟩
          · by_cases z6 : 1073741824 - (l.length : Int) < f
            · have hr : checkB (s, f, l) = 2 := by unfold checkB; rw [if_neg (by simp only []; omega), if_neg (by simp only []; omega), if_pos (.inr z6)]
              have w1 : IntKind.i64.wrap (1073741824 - (l.length : Int)) = 1073741824 - (l.length : Int) := by rw [IntKind.wrap_i64]; omega
              rw [hr]; clear hr
              go_enter Try.func34, Try.ntmps34
              go_wp2
              go_ret
              exact ⟨rfl, hz⟩
            · have hr : checkB (s, f, l) = badL l := by unfold checkB; rw [if_neg (by simp only []; omega), if_neg (by simp only []; omega), if_neg (by simp only []; omega)]
              have w1 : IntKind.i64.wrap (1073741824 - (l.length : Int)) = 1073741824 - (l.length : Int) := by rw [IntKind.wrap_i64]; omega
              rw [hr]; clear hr
              obtain ⟨n, hN⟩ : ∃ n, n = l.length := ⟨_, rfl⟩
              rw [← hN] at e2 e2' e4 z4 z2 z6 w1 hc1 hz ⊢
              have Hn := Lib.hid hN
              have HL := Lib.hid hL
              have Hok := Lib.hid ok
              have HB := Lib.hid (box3 w (.string s) (.int .i64 f) (.slice A n c) 65)
              clear hN hL ok hE
              go_enter Try.func34, Try.ntmps34
              go_wp2_with fail
              go_loopw [3] (fun i wr => ∃ k : Nat, k ≤ n ∧ i = .int .i64 (k : Int) ∧ badL (l.take k) = 0 ∧ Below (w.alloc (.cells #[.string s, .int .i64 f, .slice A n c] 65)).heap.size (w.alloc (.cells #[.string s, .int .i64 f, .slice A n c] 65)) wr) (fun i _ => n - (intOf i).toNat)
              case atStart => exact ⟨0, by omega, rfl, rfl, Below.refl _ _⟩
              case round =>
                obtain ⟨k, hk, rfl, hbad, hbr0⟩ := hrel
                have hbr := below_chain hz hbr0
                obtain ⟨-, -, g2⟩ := HB.out wr hbr0
                have Hbad := Lib.hid hbad
                clear hbad
                by_cases hlt : k < n
                · obtain ⟨e, he⟩ : ∃ e, l[k]? = some e := ⟨_, List.getElem?_eq_getElem (by have := Hn.out; omega)⟩
                  obtain ⟨b, off, rfl, -, hc⟩ := HL.out (by have := Hn.out; omega)
                  obtain ⟨c0, c1, c2⟩ := hc k e he wr hbr
                  have hk2 := fun w => ref_Check e w (Hok.out e (List.mem_of_getElem? he))
                  have hm := badL_more Hbad.out he
                  have i1 : (k : Int) < n := by omega
                  generalize checkV e = ck at hk2 hm
                  obtain ⟨e1, e2, e3⟩ := e
                  unfold evC at hk2
                  simp only [] at c0 c1 c2 hk2
                  have Hm := Lib.hid hm
                  clear he hc hm
                  by_cases h0 : ck = 0
                  · have hnext := Hm.out.1 h0
                    subst h0
                    have Hnext := Lib.hid hnext
                    clear hnext
                    go_wp2_with fail
                    refine (hk2 _).mono ?_
                    rintro y w2 ⟨rfl, hb2⟩
                    go_wp2
                    go_roundw
                    case rel => exact ⟨k + 1, by omega, by go_num, Hnext.out, below_chain hbr0 hb2⟩
                    case measure => simp [intOf]; omega
                  · have hend := Hm.out.2 h0
                    have h0' : (ck == 0) = false := by rw [beq_eq_false_iff_ne]; exact h0
                    have Hend := Lib.hid hend
                    clear hend
                    go_wp2_with fail
                    refine (hk2 _).mono ?_
                    rintro y w2 ⟨rfl, hb2⟩
                    go_wp2
                    go_ret
                    exact ⟨ret_int Hend.out.symm, below_chain hbr hb2⟩
                · have i1 : ¬ (k : Int) < n := by omega
                  have h0 : badL l = 0 := by have := Hbad.out; rwa [List.take_of_length_le (by have := Hn.out; omega)] at this
                  have H0 := Lib.hid h0
                  clear h0
                  go_wp2
                  go_ret
                  exact ⟨ret_int H0.out.symm, hbr⟩
end Go.Proofs.Ytmplabhofhllmaa
