/-
  EVENTS: are two the same; an event of its bits; what is read.
-/
import Derived.Test.YtiojapjidgjaoaaEvBytes
import Derived.Test.YtiojapjidgjaoaaOpenEv
namespace Go.Proofs.Ytiojapjidgjaoaa
open Go.RowKit
set_option linter.unusedVariables false

set_option maxHeartbeats 400000 in
theorem events_Same (x y : Ev) (w : World) (hx : okV x) (hy : okV y) :
    Calls Try.prog 21 #[.agg (evC x), .agg (evC y)] w fun e w' => e = .returned (.bool (decide (x = y))) ∧ Below w.heap.size w w' := by
  obtain ⟨t, d, n⟩ := x
  obtain ⟨t', d', n'⟩ := y
  obtain ⟨hx1, hx2, hx3⟩ := hx
  obtain ⟨hy1, hy2, hy3⟩ := hy
  simp only [] at hx3 hy3
  unfold evC
  dsimp only
  have hz := lit2_below' w (.cells #[.string t, .string d, .float .f64 n] 28) (.cells #[.string t', .string d', .float .f64 n'] 28)
  by_cases h1 : t = t'
  · subst h1
    by_cases h2 : d = d'
    · subst h2
      have hw := fun w => weights_Same n n' w hx3 hy3
      have hd : decide ((t, d, n) = (t, d, n')) = decide (n = n') := by simp
      rw [hd]
      go_enter Try.func21, Try.ntmps21
      go_wp2_with fail
      refine (hw _).mono ?_
      rintro e w1 ⟨rfl, hb1⟩
      go_wp2
      go_ret
      exact ⟨rfl, below_chain hz hb1⟩
    · have hd : decide ((t, d, n) = (t, d', n')) = false := by simp [h2]
      have e2 : (d.toList == d'.toList) = false := by rw [beq_eq_false_iff_ne, Ne, toList_inj]; exact h2
      rw [hd]
      go_enter Try.func21, Try.ntmps21
      go_wp2
      go_ret
      exact ⟨rfl, hz⟩
  · have hd : decide ((t, d, n) = (t', d', n')) = false := by simp [h1]
    have e1 : (t.toList == t'.toList) = false := by rw [beq_eq_false_iff_ne, Ne, toList_inj]; exact h1
    rw [hd]
    go_enter Try.func21, Try.ntmps21
    go_wp2
    go_ret
    exact ⟨rfl, hz⟩
set_option maxHeartbeats 400000 in
theorem ref_Same (x y : Ev) (w : World) (hx : okV x) (hy : okV y) :
    Calls Try.prog 22 #[.agg (evC x), .agg (evC y)] w fun e w' => e = .returned (.bool (decide (x = y))) ∧ Below w.heap.size w w' := by
  obtain ⟨t, d, n⟩ := x
  obtain ⟨t', d', n'⟩ := y
  obtain ⟨hx1, hx2, hx3⟩ := hx
  obtain ⟨hy1, hy2, hy3⟩ := hy
  simp only [] at hx3 hy3
  unfold evC
  dsimp only
  have hz := lit2_below' w (.cells #[.string t, .string d, .float .f64 n] 28) (.cells #[.string t', .string d', .float .f64 n'] 28)
  by_cases h1 : t = t'
  · subst h1
    by_cases h2 : d = d'
    · subst h2
      have hw := fun w => ref_SameW n n' w hx3 hy3
      have hd : decide ((t, d, n) = (t, d, n')) = decide (n = n') := by simp
      rw [hd]
      go_enter Try.func22, Try.ntmps22
      go_wp2_with fail
      refine (hw _).mono ?_
      rintro e w1 ⟨rfl, hb1⟩
      go_wp2
      go_ret
      exact ⟨rfl, below_chain hz hb1⟩
    · have hd : decide ((t, d, n) = (t, d', n')) = false := by simp [h2]
      have e2 : (d.toList == d'.toList) = false := by rw [beq_eq_false_iff_ne, Ne, toList_inj]; exact h2
      rw [hd]
      go_enter Try.func22, Try.ntmps22
      go_wp2
      go_ret
      exact ⟨rfl, hz⟩
  · have hd : decide ((t, d, n) = (t', d', n')) = false := by simp [h1]
    have e1 : (t.toList == t'.toList) = false := by rw [beq_eq_false_iff_ne, Ne, toList_inj]; exact h1
    rw [hd]
    go_enter Try.func22, Try.ntmps22
    go_wp2
    go_ret
    exact ⟨rfl, hz⟩
def greatV (x : Ev) : Bool := decide (1000 < x.1.size) || decide (1000 < x.2.1.size)
theorem raw_Great (x : Ev) (w : World) (hx : okV x) :
    Calls Try.prog 14 #[.agg (rawC x)] w fun e w' => e = .returned (.bool (greatV x)) ∧ Below w.heap.size w w' := by
  obtain ⟨t, d, n⟩ := x
  obtain ⟨h1, h2, h3⟩ := hx
  simp only [maxLen] at h1 h2 h3
  unfold greatV rawC
  dsimp only
  have hz := lit_below w (.cells #[.string t, .string d, .int .u64 (n : Nat)] 24)
  by_cases h : 1000 < t.size
  · have h' : (1000 : Int) < t.size := by omega
    go_enter Try.func14, Try.ntmps14
    go_wp2
    go_ret
    exact ⟨ret_bb (by simp [h]), hz⟩
  · have h' : ¬ (1000 : Int) < t.size := by omega
    have e : decide ((1000 : Int) < d.size) = decide (1000 < d.size) := by rw [decide_eq_decide]; omega
    go_enter Try.func14, Try.ntmps14
    go_wp2
    go_ret
    exact ⟨ret_bb (by simp), hz⟩
set_option maxHeartbeats 1000000 in
theorem raw_Event (x : Ev) (w : World) (hx : okV x) :
    Calls Try.prog 16 #[.agg (rawC x)] w fun e w' => e = .returned (.agg (evC x)) ∧ Below w.heap.size w w' := by
  obtain ⟨t, d, n⟩ := x
  obtain ⟨h1, h2, h3⟩ := hx
  simp only [maxLen] at h1 h2 h3
  unfold evC rawC
  dsimp only
  have hf := run_f64from
  have hz := lit2_below' w (.cells #[.string t, .string d, .int .u64 (n : Nat)] 24) (.cells #[.string ⟨#[]⟩, .string ⟨#[]⟩, .float .f64 0] 28)
  go_enter Try.func16, Try.ntmps16
  go_wp2_with fail
  go_region
  go_wp2
  refine bodyPost_ret (v := .agg #[.string t, .string d, .float .f64 n]) (by simp [results, Try.results16, go_sem]) rfl ⟨rfl, (lit2_below' w _ _).drew⟩
/-- The same, the world told. -/
theorem raw_EventX (t d : ByteArray) (n : Nat) (w : World) :
    Calls Try.prog 16 #[.agg #[.string t, .string d, .int .u64 (n : Nat)]] w fun e w' => e = .returned (.agg #[.string t, .string d, .float .f64 n]) ∧
      w' = ((w.alloc (.cells #[.string t, .string d, .int .u64 (n : Nat)] 24)).alloc (.cells #[.string t, .string d, .float .f64 n] 28)).drew := by
  have hf := run_f64from
  go_enter Try.func16, Try.ntmps16
  go_wp2_with fail
  go_region
  go_wp2
  refine bodyPost_ret (v := .agg #[.string t, .string d, .float .f64 n]) (by simp [results, Try.results16, go_sem]) rfl ⟨rfl, rfl⟩
theorem readV_cases (s : List UInt8) :
    (readOk s = false ∧ readOkV s = false) ∨ (readOk s = true ∧ readOk (readB s) = false ∧ readOkV s = false) ∨ (readOk s = true ∧ readOk (readB s) = true ∧ (lastV s).length < 8 ∧ readOkV s = false) ∨
    (readOk s = true ∧ readOk (readB s) = true ∧ 8 ≤ (lastV s).length ∧ checkV (gotV s) ≠ 0 ∧ readOkV s = false) ∨ (readOk s = true ∧ readOk (readB s) = true ∧ 8 ≤ (lastV s).length ∧ checkV (gotV s) = 0 ∧ readOkV s = true) := by
  unfold readOkV fitV
  rcases readOk s with _ | _
  · exact .inl ⟨rfl, rfl⟩
  · rcases readOk (readB s) with _ | _
    · exact .inr (.inl ⟨rfl, rfl, rfl⟩)
    · by_cases h : 8 ≤ (lastV s).length
      · rw [decide_eq_true h]
        by_cases h2 : checkV (gotV s) = 0
        · exact .inr (.inr (.inr (.inr ⟨rfl, rfl, h, h2, by rw [h2]; rfl⟩)))
        · exact .inr (.inr (.inr (.inl ⟨rfl, rfl, h, h2, by rw [decide_eq_false h2]; rfl⟩)))
      · exact .inr (.inr (.inl ⟨rfl, rfl, by omega, by rw [decide_eq_false h]; rfl⟩))
theorem ret_evt {x y : Ev} {a b : ByteArray} {o p : Bool} (h1 : x = y) (h2 : a = b) (h3 : o = p) : Ending.returned (.tuple #[.agg (evC x), .string a, .bool o]) = .returned (.tuple #[.agg (evC y), .string b, .bool p]) := by rw [h1, h2, h3]

set_option maxHeartbeats 1000000 in
theorem events_Read (s : ByteArray) (w : World) (hs : s.size ≤ 1000000000) :
    Calls Try.prog 26 #[.string s] w fun e w' => e = .returned (.tuple #[.agg (evC (readV (lb s))), .string (bs (restV (lb s))), .bool (readOkV (lb s))]) ∧ Below w.heap.size w w' := by
  have hBl : (readB (lb s)).length ≤ 1000000000 := by have := readB_len (lb s); rw [length_lb] at this; omega
  have hAl : (readA (lb s)).length ≤ 1000000000 := by have := readA_len (lb s); rw [length_lb] at this; omega
  have hDl : (readB (readB (lb s))).length ≤ 1000000000 := by have := readB_len (readB (lb s)); omega
  have hCl : (readA (readB (lb s))).length ≤ 1000000000 := by have := readA_len (readB (lb s)); omega
  have n1 := fun w => nums_Read s w (by omega)
  have n2 := fun w => nums_Read (bs (readB (lb s))) w (by rw [size_bs]; omega)
  have n3 := fun w => nums_Get ((bs (readB (readB (lb s)))).extract 0 8) w (by simp [maxLen]; omega)
  have hx : (bs (readB (readB (lb s)))).extract 0 8 = bs ((readB (readB (lb s))).take 8) := by rw [bs_extract, lb_bs, List.drop_zero, Nat.sub_zero]
  have hok := okV_got (lb s) (by rw [length_lb]; simp [Go.maxLen]; omega)
  have hck := fun w => events_Check (gotV (lb s)) w hok
  have hf := run_f64from
  have hcases := readV_cases (lb s)
  have hno := none_read (s := lb s)
  have hyes : readOkV (lb s) = true → readV (lb s) = gotV (lb s) ∧ restV (lb s) = (lastV (lb s)).drop 8 := fun h => by unfold readV restV; rw [h]; exact ⟨rfl, rfl⟩
  have hz0 := lit_below w (.cells #[.string ⟨#[]⟩, .string ⟨#[]⟩, .float .f64 0] 28)
  have hrow : Row (w.alloc (.cells #[.string ⟨#[]⟩, .string ⟨#[]⟩, .float .f64 0] 28)) w.heap.size 28 [.string ⟨#[]⟩, .string ⟨#[]⟩, .float .f64 0] := Row.new w #[.string ⟨#[]⟩, .string ⟨#[]⟩, .float .f64 0] _
  have hst : ∀ (w' : World) v0 v1 v2, Below w.heap.size w w' → Below w.heap.size w (((w'.setCell ⟨w.heap.size, 0, none⟩ v0).setCell ⟨w.heap.size, 1, none⟩ v1).setCell ⟨w.heap.size, 2, none⟩ v2) := fun w' v0 v1 v2 h => ((h.setCell (Nat.le_refl _) _).setCell (Nat.le_refl _) _).setCell (Nat.le_refl _) _
  unfold gotV lastV at hcases hyes
  unfold gotV at hck
  unfold lastV at hck
  simp only [lb_bs] at n2 n3
  rw [hx, lb_bs] at n3
  unfold evC at hck
  simp only [] at hck
  generalize hA : readA (lb s) = A at *
  generalize hB : readB (lb s) = B at *
  generalize hC : readA B = C at *
  generalize hD : readB B = D at *
  generalize readOkV (lb s) = o at *
  generalize readV (lb s) = r at *
  generalize restV (lb s) = q at *
  generalize getN (D.take 8) = N at *
  have HS := Lib.hid hst
  have Hx := Lib.hid hx
  have Hno := Lib.hid hno
  have Hyes := Lib.hid hyes
  have Hok := Lib.hid hok
  clear hst hx hno hyes hok hA hB hC hD
  generalize hc : checkV (bs A, bs C, N) = ck at *
  rcases hcases with ⟨c1, rfl⟩ | ⟨c1, c2, rfl⟩ | ⟨c1, c2, c3, rfl⟩ | ⟨c1, c2, c3, c4, rfl⟩ | ⟨c1, c2, c3, rfl, rfl⟩
  · obtain ⟨rfl, rfl⟩ := Hno.out rfl
    rw [c1] at n1
    clear n2 n3 hck hc hf
    go_enter Try.func26, Try.ntmps26
    go_wp2_with fail
    refine (n1 _).mono ?_
    rintro e w1 ⟨rfl, hb1⟩
    have hrow1 := hrow.next hb1
    have r0 := hrow1.cell 0 (by simp)
    have r1 := hrow1.cell 1 (by simp)
    have r2 := hrow1.cell 2 (by simp)
    have f0 := hrow1.frozen 0 (by simp)
    have f1 := hrow1.frozen 1 (by simp)
    have f2 := hrow1.frozen 2 (by simp)
    simp only [List.getElem_cons_zero, List.getElem_cons_succ] at r0 r1 r2
    clear hrow1 n1
    go_wp2
    refine bodyPost_ret (v := .tuple #[.agg #[.string ⟨#[]⟩, .string ⟨#[]⟩, .float .f64 0], .string ⟨#[]⟩, .bool false]) (by simp [results, Try.results26, go_sem, r0, r1, r2]) rfl ⟨rfl, HS.out _ _ _ _ (below_chain hz0 hb1)⟩
  · obtain ⟨rfl, rfl⟩ := Hno.out rfl
    rw [c1] at n1
    rw [c2] at n2
    clear n3 hck hc hf
    go_enter Try.func26, Try.ntmps26
    go_wp2_with fail
    refine (n1 _).mono ?_
    rintro e w1 ⟨rfl, hb1⟩
    go_wp2_with fail
    refine (n2 _).mono ?_
    rintro e w2 ⟨rfl, hb2⟩
    have hrow1 := (hrow.next hb1).next hb2
    have r0 := hrow1.cell 0 (by simp)
    have r1 := hrow1.cell 1 (by simp)
    have r2 := hrow1.cell 2 (by simp)
    have f0 := hrow1.frozen 0 (by simp)
    have f1 := hrow1.frozen 1 (by simp)
    have f2 := hrow1.frozen 2 (by simp)
    simp only [List.getElem_cons_zero, List.getElem_cons_succ] at r0 r1 r2
    clear hrow1 n1 n2
    go_wp2
    refine bodyPost_ret (v := .tuple #[.agg #[.string ⟨#[]⟩, .string ⟨#[]⟩, .float .f64 0], .string ⟨#[]⟩, .bool false]) (by simp [results, Try.results26, go_sem, r0, r1, r2]) rfl ⟨rfl, HS.out _ _ _ _ (below_chain hz0 (below_chain hb1 hb2))⟩
  · obtain ⟨rfl, rfl⟩ := Hno.out rfl
    rw [c1] at n1
    rw [c2] at n2
    have c3' : (D.length : Int) < 8 := by omega
    clear n3 hck hc hf
    go_enter Try.func26, Try.ntmps26
    go_wp2_with fail
    refine (n1 _).mono ?_
    rintro e w1 ⟨rfl, hb1⟩
    go_wp2_with fail
    refine (n2 _).mono ?_
    rintro e w2 ⟨rfl, hb2⟩
    have hrow1 := (hrow.next hb1).next hb2
    have r0 := hrow1.cell 0 (by simp)
    have r1 := hrow1.cell 1 (by simp)
    have r2 := hrow1.cell 2 (by simp)
    have f0 := hrow1.frozen 0 (by simp)
    have f1 := hrow1.frozen 1 (by simp)
    have f2 := hrow1.frozen 2 (by simp)
    simp only [List.getElem_cons_zero, List.getElem_cons_succ] at r0 r1 r2
    clear hrow1 n1 n2
    go_wp2
    refine bodyPost_ret (v := .tuple #[.agg #[.string ⟨#[]⟩, .string ⟨#[]⟩, .float .f64 0], .string ⟨#[]⟩, .bool false]) (by simp [results, Try.results26, go_sem, r0, r1, r2]) rfl ⟨rfl, HS.out _ _ _ _ (below_chain hz0 (below_chain hb1 hb2))⟩
  · obtain ⟨rfl, rfl⟩ := Hno.out rfl
    rw [c1] at n1
    rw [c2] at n2
    have c3' : ¬ (D.length : Int) < 8 := by omega
    have c3'' : (8 : Int) ≤ D.length := by omega
    go_enter Try.func26, Try.ntmps26
    go_wp2_with fail
    refine (n1 _).mono ?_
    rintro e w1 ⟨rfl, hb1⟩
    go_wp2_with fail
    refine (n2 _).mono ?_
    rintro e w2 ⟨rfl, hb2⟩
    clear n1 n2
    go_wp2_with fail
    rw [Hx.out]
    refine (n3 _).mono ?_
    rintro e w' ⟨rfl, rfl⟩
    have hrow1 := (hrow.next hb1).next hb2
    have r0 := hrow1.cell 0 (by simp)
    have r1 := hrow1.cell 1 (by simp)
    have r2 := hrow1.cell 2 (by simp)
    have f0 := hrow1.frozen 0 (by simp)
    have f1 := hrow1.frozen 1 (by simp)
    have f2 := hrow1.frozen 2 (by simp)
    simp only [List.getElem_cons_zero, List.getElem_cons_succ] at r0 r1 r2
    have hb2' := HS.out w2 (.string (bs A)) (.string (bs C)) (.float .f64 N) (below_chain hz0 (below_chain hb1 hb2))
    have hrow3 := ((hrow1.set 0 (.string (bs A))).set 1 (.string (bs C))).set 2 (.float .f64 N)
    simp only [List.set_cons_zero, List.set_cons_succ] at hrow3
    clear n3 hrow1 hb1 hb2
    go_wp2_with fail
    clear r0 r1 r2 f0 f1 f2
    generalize ((w2.setCell ⟨w.heap.size, 0, none⟩ (.string (bs A))).setCell ⟨w.heap.size, 1, none⟩ (.string (bs C))).setCell ⟨w.heap.size, 2, none⟩ (.float .f64 N) = w3 at hb2' hrow3 ⊢
    refine (hck _).mono ?_
    rintro e w4 ⟨rfl, hb4⟩
    have hbw := below_more hb2' hb4 (by have := hb2'.size; omega)
    have hrow4 := hrow3.next hb4
    have r0 := hrow4.cell 0 (by simp)
    have r1 := hrow4.cell 1 (by simp)
    have r2 := hrow4.cell 2 (by simp)
    have f0 := hrow4.frozen 0 (by simp)
    have f1 := hrow4.frozen 1 (by simp)
    have f2 := hrow4.frozen 2 (by simp)
    simp only [List.getElem_cons_zero, List.getElem_cons_succ] at r0 r1 r2
    clear hrow4 hrow3 hrow hck
    clear hf
    go_wp2
    refine bodyPost_ret (v := .tuple #[.agg #[.string ⟨#[]⟩, .string ⟨#[]⟩, .float .f64 0], .string ⟨#[]⟩, .bool false]) (by simp [results, Try.results26, go_sem, r0, r1, r2]) rfl ⟨rfl, HS.out _ _ _ _ hbw⟩
  · obtain ⟨rfl, rfl⟩ := Hyes.out rfl
    rw [c1] at n1
    rw [c2] at n2
    have c3' : ¬ (D.length : Int) < 8 := by omega
    have c3'' : (8 : Int) ≤ D.length := by omega
    have hx8 : (bs D).extract 8 D.length = bs (D.drop 8) := by rw [bs_extract, lb_bs, List.take_of_length_le (by simp)]
    go_enter Try.func26, Try.ntmps26
    go_wp2_with fail
    refine (n1 _).mono ?_
    rintro e w1 ⟨rfl, hb1⟩
    go_wp2_with fail
    refine (n2 _).mono ?_
    rintro e w2 ⟨rfl, hb2⟩
    clear n1 n2
    go_wp2_with fail
    rw [Hx.out]
    refine (n3 _).mono ?_
    rintro e w' ⟨rfl, rfl⟩
    have hrow1 := (hrow.next hb1).next hb2
    have r0 := hrow1.cell 0 (by simp)
    have r1 := hrow1.cell 1 (by simp)
    have r2 := hrow1.cell 2 (by simp)
    have f0 := hrow1.frozen 0 (by simp)
    have f1 := hrow1.frozen 1 (by simp)
    have f2 := hrow1.frozen 2 (by simp)
    simp only [List.getElem_cons_zero, List.getElem_cons_succ] at r0 r1 r2
    have hb2' := HS.out w2 (.string (bs A)) (.string (bs C)) (.float .f64 N) (below_chain hz0 (below_chain hb1 hb2))
    have hrow3 := ((hrow1.set 0 (.string (bs A))).set 1 (.string (bs C))).set 2 (.float .f64 N)
    simp only [List.set_cons_zero, List.set_cons_succ] at hrow3
    clear n3 hrow1 hb1 hb2
    go_wp2_with fail
    clear r0 r1 r2 f0 f1 f2
    generalize ((w2.setCell ⟨w.heap.size, 0, none⟩ (.string (bs A))).setCell ⟨w.heap.size, 1, none⟩ (.string (bs C))).setCell ⟨w.heap.size, 2, none⟩ (.float .f64 N) = w3 at hb2' hrow3 ⊢
    refine (hck _).mono ?_
    rintro e w4 ⟨rfl, hb4⟩
    have hbw := below_more hb2' hb4 (by have := hb2'.size; omega)
    have hrow4 := hrow3.next hb4
    have r0 := hrow4.cell 0 (by simp)
    have r1 := hrow4.cell 1 (by simp)
    have r2 := hrow4.cell 2 (by simp)
    have f0 := hrow4.frozen 0 (by simp)
    have f1 := hrow4.frozen 1 (by simp)
    have f2 := hrow4.frozen 2 (by simp)
    simp only [List.getElem_cons_zero, List.getElem_cons_succ] at r0 r1 r2
    clear hrow4 hrow3 hrow hck
    clear hf
    go_wp2_with fail
    go_region
    go_wp2
    refine bodyPost_ret (v := .tuple #[.agg #[.string (bs A), .string (bs C), .float .f64 N], .string (bs (D.drop 8)), .bool true]) (by simp [results, Try.results26, go_sem, r0, r1, r2]) rfl ⟨rfl, HS.out _ _ _ _ hbw.drew⟩
end Go.Proofs.Ytiojapjidgjaoaa
