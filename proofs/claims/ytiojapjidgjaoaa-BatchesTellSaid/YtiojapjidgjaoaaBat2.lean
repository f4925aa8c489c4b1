/-
  BATCHES: are two the same; a batch of its bits.
-/
import Derived.Test.YtiojapjidgjaoaaBatRefPut
namespace Go.Proofs.Ytiojapjidgjaoaa
open Go.RowKit
set_option linter.unusedVariables false

theorem bat_eq (s s' : ByteArray) (f f' : Int) (l l' : List Ev) : decide (((s, f, l) : Bat) = (s', f', l')) = (decide (s = s') && (decide (f = f') && decide (l = l'))) := by
  rw [Bool.eq_iff_iff]; simp
set_option maxHeartbeats 400000 in
theorem batches_Same (va vb : Value) (a b : Bat) (w : World) (ha : BatV w va a) (hb : BatV w vb b) :
    Calls Try.prog 35 #[va, vb] w fun e w' => e = .returned (.bool (decide (a = b))) ∧ Below w.heap.size w w' := by
  obtain ⟨s, f, l⟩ := a
  obtain ⟨s', f', l'⟩ := b
  obtain ⟨A, c, rfl, hE, -⟩ := ha
  obtain ⟨B, d, rfl, hE', -⟩ := hb
  simp only [] at hE hE' ⊢
  have hz := lit2_below' w (.cells #[.string s, .int .i64 f, .slice A l.length c] 49) (.cells #[.string s', .int .i64 f', .slice B l'.length d] 49)
  by_cases h1 : s = s'
  · subst h1
    by_cases h2 : f = f'
    · subst h2
      have hw := fun w' (hb : Below w.heap.size w w') => events_All _ _ l l' w' (hE.next hb) (hE'.next hb)
      have hd : decide (((s, f, l) : Bat) = (s, f, l')) = decide (l = l') := by rw [bat_eq]; simp
      rw [hd]
      have Hw := Lib.hid hw
      clear hw hE hE'
      go_enter Try.func35, Try.ntmps35
      go_wp2_with fail
      refine (Hw.out _ hz).mono ?_
      rintro e w1 ⟨rfl, hb1⟩
      go_wp2
      go_ret
      exact ⟨rfl, below_chain hz hb1⟩
    · have hd : decide (((s, f, l) : Bat) = (s, f', l')) = false := by rw [bat_eq]; simp [h2]
      have e2 : (f == f') = false := by rw [beq_eq_false_iff_ne]; exact h2
      rw [hd]
      go_enter Try.func35, Try.ntmps35
      go_wp2
      go_ret
      exact ⟨rfl, hz⟩
  · have hd : decide (((s, f, l) : Bat) = (s', f', l')) = false := by rw [bat_eq]; simp [h1]
    have e1 : (s.toList == s'.toList) = false := by rw [beq_eq_false_iff_ne, Ne, toList_inj]; exact h1
    rw [hd]
    go_enter Try.func35, Try.ntmps35
    go_wp2
    go_ret
    exact ⟨rfl, hz⟩
set_option maxHeartbeats 400000 in
theorem refB_Same (va vb : Value) (a b : Bat) (w : World) (ha : BatV w va a) (hb : BatV w vb b) :
    Calls Try.prog 36 #[va, vb] w fun e w' => e = .returned (.bool (decide (a = b))) ∧ Below w.heap.size w w' := by
  obtain ⟨s, f, l⟩ := a
  obtain ⟨s', f', l'⟩ := b
  obtain ⟨A, c, rfl, hE, -⟩ := ha
  obtain ⟨B, d, rfl, hE', -⟩ := hb
  simp only [] at hE hE' ⊢
  have hz := lit2_below' w (.cells #[.string s, .int .i64 f, .slice A l.length c] 49) (.cells #[.string s', .int .i64 f', .slice B l'.length d] 49)
  by_cases h1 : s = s'
  · subst h1
    by_cases h2 : f = f'
    · subst h2
      have hw := fun w' (hb : Below w.heap.size w w') => ref_All _ _ l l' w' (hE.next hb) (hE'.next hb)
      have hd : decide (((s, f, l) : Bat) = (s, f, l')) = decide (l = l') := by rw [bat_eq]; simp
      rw [hd]
      have Hw := Lib.hid hw
      clear hw hE hE'
      go_enter Try.func36, Try.ntmps36
      go_wp2_with fail
      refine (Hw.out _ hz).mono ?_
      rintro e w1 ⟨rfl, hb1⟩
      go_wp2
      go_ret
      exact ⟨rfl, below_chain hz hb1⟩
    · have hd : decide (((s, f, l) : Bat) = (s, f', l')) = false := by rw [bat_eq]; simp [h2]
      have e2 : (f == f') = false := by rw [beq_eq_false_iff_ne]; exact h2
      rw [hd]
      go_enter Try.func36, Try.ntmps36
      go_wp2
      go_ret
      exact ⟨rfl, hz⟩
  · have hd : decide (((s, f, l) : Bat) = (s', f', l')) = false := by rw [bat_eq]; simp [h1]
    have e1 : (s.toList == s'.toList) = false := by rw [beq_eq_false_iff_ne, Ne, toList_inj]; exact h1
    rw [hd]
    go_enter Try.func36, Try.ntmps36
    go_wp2
    go_ret
    exact ⟨rfl, hz⟩

/-! of bits -/
def RawB (w : World) (v : Value) (b : Bat) : Prop := ∃ A c, v = .agg #[.string b.1, .int .i64 b.2.1, .slice A b.2.2.length c] ∧ Raws w (.slice A b.2.2.length c) b.2.2 ∧ b.1.size ≤ maxLen ∧ -9223372036854775808 ≤ b.2.1 ∧ b.2.1 ≤ 9223372036854775807
theorem RawB.next {w w' : World} {v : Value} {b : Bat} (h : RawB w v b) (hb : Below w.heap.size w w') : RawB w' v b := by
  obtain ⟨A, c, h1, h2, h3⟩ := h
  exact ⟨A, c, h1, h2.next hb, h3⟩
theorem law_AllE (v : Value) (l : List Ev) (w : World) (hl : Raws w v l) (hn : l.length ≤ 1000000) :
    Calls Try.prog 24 #[v] w fun e w' => ∃ A c, e = .returned (.slice A l.length c) ∧ (w'.ownsRow w.heap.size 28 3 (.slice A l.length c) l.length (l.flatMap evL) ∧ Evs w' (.slice A l.length c) l) ∧ Below w.heap.size w w' := by
  refine (law_AllV v l w hl hn).mono ?_
  rintro e w' ⟨v', rfl, hown, hb⟩
  have hE : Evs w' v' l := ⟨Reads.of_own hown, hl.2⟩
  obtain ⟨⟨A, c, rfl, -, -, -, -⟩, -⟩ := id hE
  exact ⟨A, c, rfl, ⟨hown, hE⟩, hb⟩
def greatB (b : Bat) : Bool := decide (1000 < b.1.size) || decide (12 < b.2.2.length) || b.2.2.any greatV
theorem any_take_succ {l : List Ev} {k : Nat} {e : Ev} (h : l[k]? = some e) : (l.take (k + 1)).any greatV = ((l.take k).any greatV || greatV e) := by
  rw [List.take_add_one, h, List.any_append]; simp

set_option maxHeartbeats 1000000 in
theorem rawB_Great (v : Value) (b : Bat) (w : World) (h : RawB w v b) :
    Calls Try.prog 28 #[v] w fun e w' => e = .returned (.bool (greatB b)) ∧ Below w.heap.size w w' := by
  obtain ⟨s, f, l⟩ := b
  obtain ⟨A, c, rfl, hE, hs, hf1, hf2⟩ := h
  simp only [] at hE hs hf1 hf2 ⊢
  obtain ⟨-, hc1, hc2, -⟩ := Reads.each rawL_len hE.1
  unfold maxLen at hc2 hs
  have hz := lit_below w (.cells #[.string s, .int .i64 f, .slice A l.length c] 47)
  have hL := fun h0 => hE.later h0
  have ok := hE.2
  by_cases z3 : 1000 < s.size
  · have e3 : (1000 : Int) < s.size := by omega
    have hr : greatB (s, f, l) = true := by unfold greatB; simp [z3]
    rw [hr]; clear hr
    go_enter Try.func28, Try.ntmps28
    go_wp2
    go_ret
    exact ⟨rfl, hz⟩
  · have e3 : ¬ (1000 : Int) < s.size := by omega
    by_cases z4 : 12 < l.length
    · have e4 : (12 : Int) < l.length := by omega
      have hr : greatB (s, f, l) = true := by unfold greatB; simp [z4]
      rw [hr]; clear hr
      go_enter Try.func28, Try.ntmps28
      go_wp2
      go_ret
      exact ⟨rfl, hz⟩
    · have e4 : ¬ (12 : Int) < l.length := by omega
      have hr : greatB (s, f, l) = l.any greatV := by unfold greatB; simp [z3, z4]
      rw [hr]; clear hr
      obtain ⟨n, hN⟩ : ∃ n, n = l.length := ⟨_, rfl⟩
      rw [← hN] at e4 z4 hc1 hz ⊢
      have Hn := Lib.hid hN
      have HL := Lib.hid hL
      have Hok := Lib.hid ok
      have HB := Lib.hid (box3 w (.string s) (.int .i64 f) (.slice A n c) 47)
      clear hN hL ok hE
      go_enter Try.func28, Try.ntmps28
      go_wp2_with fail
      go_loopw [3] (fun i wr => ∃ k : Nat, k ≤ n ∧ i = .int .i64 (k : Int) ∧ (l.take k).any greatV = false ∧ Below (w.alloc (.cells #[.string s, .int .i64 f, .slice A n c] 47)).heap.size (w.alloc (.cells #[.string s, .int .i64 f, .slice A n c] 47)) wr) (fun i _ => n - (intOf i).toNat)
      case atStart => exact ⟨0, by omega, rfl, rfl, Below.refl _ _⟩
      case round =>
        obtain ⟨k, hk, rfl, hbad, hbr0⟩ := hrel
        have hbr := below_chain hz hbr0
        obtain ⟨-, -, g2⟩ := HB.out wr hbr0
        have Hbad := Lib.hid hbad
        clear hbad
        by_cases hlt : k < n
        · obtain ⟨e, he⟩ : ∃ e, l[k]? = some e := ⟨_, List.getElem?_eq_getElem (by have := Hn.out; omega)⟩
          obtain ⟨b, off, rfl, -, hc⟩ := HL.out (by have := Hn.out; omega)
          obtain ⟨c0, c1, c2⟩ := hc k e he wr hbr
          have hk2 := fun w => raw_Great e w (Hok.out e (List.mem_of_getElem? he))
          have hm := any_take_succ he
          have hall : greatV e = true → l.any greatV = true := fun h => List.any_eq_true.2 ⟨e, List.mem_of_getElem? he, h⟩
          have i1 : (k : Int) < n := by omega
          generalize greatV e = g at hk2 hm hall
          obtain ⟨e1, e2, e3⟩ := e
          unfold rawC at hk2
          simp only [] at c0 c1 c2 hk2
          have Hm := Lib.hid hm
          have Hall := Lib.hid hall
          clear he hc hm hall
          rcases g with _ | _
          · go_wp2_with fail
            refine (hk2 _).mono ?_
            rintro y w2 ⟨rfl, hb2⟩
            go_wp2
            go_roundw
            case rel => exact ⟨k + 1, by omega, by go_num, by rw [Hm.out, Hbad.out]; rfl, below_chain hbr0 hb2⟩
            case measure => simp [intOf]; omega
          · go_wp2_with fail
            refine (hk2 _).mono ?_
            rintro y w2 ⟨rfl, hb2⟩
            go_wp2
            go_ret
            exact ⟨ret_bool (Hall.out trivial).symm, below_chain hbr hb2⟩
        · have i1 : ¬ (k : Int) < n := by omega
          have h0 : l.any greatV = false := by have := Hbad.out; rwa [List.take_of_length_le (by have := Hn.out; omega)] at this
          have H0 := Lib.hid h0
          clear h0
          go_wp2
          go_ret
          exact ⟨ret_bool H0.out.symm, hbr⟩

set_option maxHeartbeats 1000000 in
theorem rawB_Batch (v : Value) (b : Bat) (w : World) (h : RawB w v b) (hn : b.2.2.length ≤ 1000000) :
    Calls Try.prog 30 #[v] w fun e w' => ∃ v', e = .returned v' ∧ BatV w' v' b ∧ Below w.heap.size w w' := by
  obtain ⟨s, f, l⟩ := b
  obtain ⟨A, c, rfl, hE, hs, hf1, hf2⟩ := h
  simp only [] at hE hs hf1 hf2 hn ⊢
  have hz := lit2_below' w (.cells #[.string s, .int .i64 f, .slice A l.length c] 47) (.cells #[.string ⟨#[]⟩, .int .i64 0, .slice none 0 0] 49)
  have hbox := fun w' hb => box3 w (.string s) (.int .i64 f) (.slice A l.length c) 47 w' (below_chain (lit_below _ (.cells #[.string ⟨#[]⟩, .int .i64 0, .slice none 0 0] 49)) hb)
  have hrow := Row.new (w.alloc (.cells #[.string s, .int .i64 f, .slice A l.length c] 47)) #[.string ⟨#[]⟩, .int .i64 0, .slice none 0 0] 49
  have hsz : (w.alloc (.cells #[.string s, .int .i64 f, .slice A l.length c] 47)).heap.size = w.heap.size + 1 := by simp
  rw [hsz] at hrow
  go_enter Try.func30, Try.ntmps30
  go_wp2_with fail
  clear hsz
  generalize (w.alloc (.cells #[.string s, .int .i64 f, .slice A l.length c] 47)).alloc (.cells #[.string ⟨#[]⟩, .int .i64 0, .slice none 0 0] 49) = w0 at hz hbox hrow ⊢
  have hla := fun w' (hb : Below w0.heap.size w0 w') => law_AllE _ l w' (hE.next (below_chain hz hb)) hn
  have HS := Lib.hid (show ∀ w', Below w0.heap.size w0 w' → w'.cell? ⟨w.heap.size, 0, none⟩ = some (.string s) ∧ w'.cell? ⟨w.heap.size, 1, none⟩ = some (.int .i64 f) ∧ w'.cell? ⟨w.heap.size, 2, none⟩ = some (.slice A l.length c) from fun w' hb => hbox w' hb)
  have HR := Lib.hid (fun w' (hb : Below w0.heap.size w0 w') => hrow.next hb)
  have Hla := Lib.hid hla
  clear hbox hrow hla hE
  go_region_held3 (fun w' => w'.cell? ⟨w.heap.size, 0, none⟩ = some (.string s) ∧ w'.cell? ⟨w.heap.size, 1, none⟩ = some (.int .i64 f) ∧ w'.cell? ⟨w.heap.size, 2, none⟩ = some (.slice A l.length c))
    (first | (exact HS.out _ (below_chain (Below.refl _ _).drew hb2)) | (exact HS.out _ (Below.refl _ _).drew) | (obtain ⟨k0, k1, k2⟩ := HS.out _ (below_chain (Below.refl _ _).drew hb2); simp [k0, k1, k2, World.cell?_setCell_far]) | fail)
    (first | (go_at_call 24; refine (Hla.out _ (Below.refl _ _).drew).mono ?_; rintro e w2 ⟨A2, c2, rfl, ⟨hown2, hE2⟩, hb2⟩; have hr2 := HR.out w2 (below_chain (Below.refl _ _).drew hb2); have r0 := hr2.cell 0 (by simp); have r1 := hr2.cell 1 (by simp); have r2 := hr2.cell 2 (by simp); have f0 := hr2.frozen 0 (by simp); have f1 := hr2.frozen 1 (by simp); have f2 := hr2.frozen 2 (by simp); simp only [List.getElem_cons_zero, List.getElem_cons_succ] at r0 r1 r2))
  all_goals
    have hB2 := below_chain hz (below_chain (Below.refl _ _).drew hb2)
    have hlt : w.heap.size + 1 < w0.drew.heap.size := (HR.out _ (Below.refl _ _)).lt
    have hown3 := ownsRow_setCell_below (ownsRow_setCell_below (ownsRow_setCell_below hown2 (a := ⟨w.heap.size + 1, 0, none⟩) hlt (.string s)) (a := ⟨w.heap.size + 1, 1, none⟩) hlt (.int .i64 f)) (a := ⟨w.heap.size + 1, 2, none⟩) hlt (.slice A2 l.length c2)
    have Hown3 := Lib.hid hown3
    go_wp2
    refine bodyPost_ret (v := .agg #[.string s, .int .i64 f, .slice A2 l.length c2]) (by simp [results, Try.results30, go_sem, r0, r1, r2]) rfl ⟨_, rfl, ⟨A2, c2, rfl, ⟨Reads.of_own hown3, hE2.2⟩, hs, hf1, hf2⟩, ((hB2.setCell (p := ⟨w.heap.size + 1, 0, none⟩) (Nat.le_succ _) _).setCell (p := ⟨w.heap.size + 1, 1, none⟩) (Nat.le_succ _) _).setCell (p := ⟨w.heap.size + 1, 2, none⟩) (Nat.le_succ _) _⟩
end Go.Proofs.Ytiojapjidgjaoaa
