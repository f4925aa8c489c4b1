/-
  EVENTS: what the reference reads.
-/
import Derived.Test.YtiojapjidgjaoaaEvRead
namespace Go.Proofs.Ytiojapjidgjaoaa
open Go.RowKit
set_option linter.unusedVariables false

set_option maxHeartbeats 1000000 in
theorem ref_ReadV (s : ByteArray) (w : World) (hs : s.size ≤ 1000000000) :
    Calls Try.prog 27 #[.string s] w fun e w' => e = .returned (.tuple #[.agg (evC (readV (lb s))), .string (bs (restV (lb s))), .bool (readOkV (lb s))]) ∧ Below w.heap.size w w' := by
  have hBl : (readB (lb s)).length ≤ 1000000000 := by have := readB_len (lb s); rw [length_lb] at this; omega
  have hAl : (readA (lb s)).length ≤ 1000000000 := by have := readA_len (lb s); rw [length_lb] at this; omega
  have hDl : (readB (readB (lb s))).length ≤ 1000000000 := by have := readB_len (readB (lb s)); omega
  have hCl : (readA (readB (lb s))).length ≤ 1000000000 := by have := readA_len (readB (lb s)); omega
  have n1 := fun w => ref_Read s w (by omega)
  have n2 := fun w => ref_Read (bs (readB (lb s))) w (by rw [size_bs]; omega)
  have n3 := fun w => ref_Get ((bs (readB (readB (lb s)))).extract 0 8) w (by simp [maxLen]; omega)
  have hx : (bs (readB (readB (lb s)))).extract 0 8 = bs ((readB (readB (lb s))).take 8) := by rw [bs_extract, lb_bs, List.drop_zero, Nat.sub_zero]
  have hok := okV_got (lb s) (by rw [length_lb]; simp [Go.maxLen]; omega)
  have hck := fun w => ref_Check (gotV (lb s)) w hok
  have hf := run_f64from
  have hcases := readV_cases (lb s)
  have hno := none_read (s := lb s)
  have hyes : readOkV (lb s) = true → readV (lb s) = gotV (lb s) ∧ restV (lb s) = (lastV (lb s)).drop 8 := fun h => by unfold readV restV; rw [h]; exact ⟨rfl, rfl⟩
  have hz0 := lit_below w (.cells #[.string ⟨#[]⟩, .string ⟨#[]⟩, .float .f64 0] 28)
  have hrow : Row (w.alloc (.cells #[.string ⟨#[]⟩, .string ⟨#[]⟩, .float .f64 0] 28)) w.heap.size 28 [.string ⟨#[]⟩, .string ⟨#[]⟩, .float .f64 0] := Row.new w #[.string ⟨#[]⟩, .string ⟨#[]⟩, .float .f64 0] _
  have hst : ∀ (w' : World) v0 v1 v2, Below w.heap.size w w' → Below w.heap.size w (((w'.setCell ⟨w.heap.size, 0, none⟩ v0).setCell ⟨w.heap.size, 1, none⟩ v1).setCell ⟨w.heap.size, 2, none⟩ v2) := fun w' v0 v1 v2 h => ((h.setCell (Nat.le_refl _) _).setCell (Nat.le_refl _) _).setCell (Nat.le_refl _) _
  unfold gotV lastV at hcases hyes
  unfold gotV at hck
  unfold lastV at hck
  simp only [lb_bs] at n2 n3
  rw [hx, lb_bs] at n3
  unfold evC at hck
  simp only [] at hck
  generalize hA : readA (lb s) = A at *
  generalize hB : readB (lb s) = B at *
  generalize hC : readA B = C at *
  generalize hD : readB B = D at *
  generalize readOkV (lb s) = o at *
  generalize readV (lb s) = r at *
  generalize restV (lb s) = q at *
  generalize getN (D.take 8) = N at *
  have HS := Lib.hid hst
  have Hx := Lib.hid hx
  have Hno := Lib.hid hno
  have Hyes := Lib.hid hyes
  have Hok := Lib.hid hok
  clear hst hx hno hyes hok hA hB hC hD
  generalize hc : checkV (bs A, bs C, N) = ck at *
  rcases hcases with ⟨c1, rfl⟩ | ⟨c1, c2, rfl⟩ | ⟨c1, c2, c3, rfl⟩ | ⟨c1, c2, c3, c4, rfl⟩ | ⟨c1, c2, c3, rfl, rfl⟩
  · obtain ⟨rfl, rfl⟩ := Hno.out rfl
    rw [c1] at n1
    generalize readOk B = o2 at n2
    clear n3 hck hc hf
    go_enter Try.func27, Try.ntmps27
    go_wp2_with fail
    refine (n1 _).mono ?_
    rintro e w1 ⟨rfl, hb1⟩
    go_wp2_with fail
    refine (n2 _).mono ?_
    rintro e w2 ⟨rfl, hb2⟩
    have hrow1 := (hrow.next hb1).next hb2
    have r0 := hrow1.cell 0 (by simp)
    have r1 := hrow1.cell 1 (by simp)
    have r2 := hrow1.cell 2 (by simp)
    have f0 := hrow1.frozen 0 (by simp)
    have f1 := hrow1.frozen 1 (by simp)
    have f2 := hrow1.frozen 2 (by simp)
    simp only [List.getElem_cons_zero, List.getElem_cons_succ] at r0 r1 r2
    clear hrow1 n1 n2
    go_wp2
    refine bodyPost_ret (v := .tuple #[.agg #[.string ⟨#[]⟩, .string ⟨#[]⟩, .float .f64 0], .string ⟨#[]⟩, .bool false]) (by simp [results, Try.results27, go_sem, r0, r1, r2]) rfl ⟨rfl, HS.out _ _ _ _ (below_chain hz0 (below_chain hb1 hb2))⟩
  · obtain ⟨rfl, rfl⟩ := Hno.out rfl
    rw [c1] at n1
    rw [c2] at n2
    clear n3 hck hc hf
    go_enter Try.func27, Try.ntmps27
    go_wp2_with fail
    refine (n1 _).mono ?_
    rintro e w1 ⟨rfl, hb1⟩
    go_wp2_with fail
    refine (n2 _).mono ?_
    rintro e w2 ⟨rfl, hb2⟩
    have hrow1 := (hrow.next hb1).next hb2
    have r0 := hrow1.cell 0 (by simp)
    have r1 := hrow1.cell 1 (by simp)
    have r2 := hrow1.cell 2 (by simp)
    have f0 := hrow1.frozen 0 (by simp)
    have f1 := hrow1.frozen 1 (by simp)
    have f2 := hrow1.frozen 2 (by simp)
    simp only [List.getElem_cons_zero, List.getElem_cons_succ] at r0 r1 r2
    clear hrow1 n1 n2
    go_wp2
    refine bodyPost_ret (v := .tuple #[.agg #[.string ⟨#[]⟩, .string ⟨#[]⟩, .float .f64 0], .string ⟨#[]⟩, .bool false]) (by simp [results, Try.results27, go_sem, r0, r1, r2]) rfl ⟨rfl, HS.out _ _ _ _ (below_chain hz0 (below_chain hb1 hb2))⟩
  · obtain ⟨rfl, rfl⟩ := Hno.out rfl
    rw [c1] at n1
    rw [c2] at n2
    have c3' : (D.length : Int) < 8 := by omega
    clear n3 hck hc hf
    go_enter Try.func27, Try.ntmps27
    go_wp2_with fail
    refine (n1 _).mono ?_
    rintro e w1 ⟨rfl, hb1⟩
    go_wp2_with fail
    refine (n2 _).mono ?_
    rintro e w2 ⟨rfl, hb2⟩
    have hrow1 := (hrow.next hb1).next hb2
    have r0 := hrow1.cell 0 (by simp)
    have r1 := hrow1.cell 1 (by simp)
    have r2 := hrow1.cell 2 (by simp)
    have f0 := hrow1.frozen 0 (by simp)
    have f1 := hrow1.frozen 1 (by simp)
    have f2 := hrow1.frozen 2 (by simp)
    simp only [List.getElem_cons_zero, List.getElem_cons_succ] at r0 r1 r2
    clear hrow1 n1 n2
    go_wp2
    refine bodyPost_ret (v := .tuple #[.agg #[.string ⟨#[]⟩, .string ⟨#[]⟩, .float .f64 0], .string ⟨#[]⟩, .bool false]) (by simp [results, Try.results27, go_sem, r0, r1, r2]) rfl ⟨rfl, HS.out _ _ _ _ (below_chain hz0 (below_chain hb1 hb2))⟩
  · obtain ⟨rfl, rfl⟩ := Hno.out rfl
    rw [c1] at n1
    rw [c2] at n2
    have c3' : ¬ (D.length : Int) < 8 := by omega
    have c3'' : (8 : Int) ≤ D.length := by omega
    go_enter Try.func27, Try.ntmps27
    go_wp2_with fail
    refine (n1 _).mono ?_
    rintro e w1 ⟨rfl, hb1⟩
    go_wp2_with fail
    refine (n2 _).mono ?_
    rintro e w2 ⟨rfl, hb2⟩
    clear n1 n2
    go_wp2_with fail
    rw [Hx.out]
    refine (n3 _).mono ?_
    rintro e w' ⟨rfl, rfl⟩
    have hrow1 := (hrow.next hb1).next hb2
    have r0 := hrow1.cell 0 (by simp)
    have r1 := hrow1.cell 1 (by simp)
    have r2 := hrow1.cell 2 (by simp)
    have f0 := hrow1.frozen 0 (by simp)
    have f1 := hrow1.frozen 1 (by simp)
    have f2 := hrow1.frozen 2 (by simp)
    simp only [List.getElem_cons_zero, List.getElem_cons_succ] at r0 r1 r2
    have hb2' := below_chain hz0 (below_chain hb1 hb2)
    have hz2 := lit_below w2 (.cells #[.string (bs A), .string (bs C), .float .f64 N] 28)
    have hbx := ev_box w2 (bs A, bs C, N) 28
    have hrow3 := hrow1.next hz2
    clear n3 hrow1 hb1 hb2
    go_wp2_with fail
    clear r0 r1 r2 f0 f1 f2
    refine (hck _).mono ?_
    rintro e w4 ⟨rfl, hb4⟩
    have hbw := below_more (below_more hb2' hz2 (by have := hb2'.size; omega)) hb4 (by have := hb2'.size; omega)
    have hrow4 := hrow3.next hb4
    have r0 := hrow4.cell 0 (by simp)
    have r1 := hrow4.cell 1 (by simp)
    have r2 := hrow4.cell 2 (by simp)
    have f0 := hrow4.frozen 0 (by simp)
    have f1 := hrow4.frozen 1 (by simp)
    have f2 := hrow4.frozen 2 (by simp)
    simp only [List.getElem_cons_zero, List.getElem_cons_succ] at r0 r1 r2
    obtain ⟨x0, x1, x2⟩ := hbx w4 hb4
    clear hrow4 hrow3 hrow hck
    clear hf
    go_wp2
    refine bodyPost_ret (v := .tuple #[.agg #[.string ⟨#[]⟩, .string ⟨#[]⟩, .float .f64 0], .string ⟨#[]⟩, .bool false]) (by simp [results, Try.results27, go_sem, r0, r1, r2]) rfl ⟨rfl, HS.out _ _ _ _ hbw⟩
  · obtain ⟨rfl, rfl⟩ := Hyes.out rfl
    rw [c1] at n1
    rw [c2] at n2
    have c3' : ¬ (D.length : Int) < 8 := by omega
    have c3'' : (8 : Int) ≤ D.length := by omega
    have hx8 : (bs D).extract 8 D.length = bs (D.drop 8) := by rw [bs_extract, lb_bs, List.take_of_length_le (by simp)]
    go_enter Try.func27, Try.ntmps27
    go_wp2_with fail
    refine (n1 _).mono ?_
    rintro e w1 ⟨rfl, hb1⟩
    go_wp2_with fail
    refine (n2 _).mono ?_
    rintro e w2 ⟨rfl, hb2⟩
    clear n1 n2
    go_wp2_with fail
    rw [Hx.out]
    refine (n3 _).mono ?_
    rintro e w' ⟨rfl, rfl⟩
    have hrow1 := (hrow.next hb1).next hb2
    have r0 := hrow1.cell 0 (by simp)
    have r1 := hrow1.cell 1 (by simp)
    have r2 := hrow1.cell 2 (by simp)
    have f0 := hrow1.frozen 0 (by simp)
    have f1 := hrow1.frozen 1 (by simp)
    have f2 := hrow1.frozen 2 (by simp)
    simp only [List.getElem_cons_zero, List.getElem_cons_succ] at r0 r1 r2
    have hb2' := below_chain hz0 (below_chain hb1 hb2)
    have hz2 := lit_below w2 (.cells #[.string (bs A), .string (bs C), .float .f64 N] 28)
    have hbx := ev_box w2 (bs A, bs C, N) 28
    have hrow3 := hrow1.next hz2
    clear n3 hrow1 hb1 hb2
    go_wp2_with fail
    clear r0 r1 r2 f0 f1 f2
    refine (hck _).mono ?_
    rintro e w4 ⟨rfl, hb4⟩
    have hbw := below_more (below_more hb2' hz2 (by have := hb2'.size; omega)) hb4 (by have := hb2'.size; omega)
    have hrow4 := hrow3.next hb4
    have r0 := hrow4.cell 0 (by simp)
    have r1 := hrow4.cell 1 (by simp)
    have r2 := hrow4.cell 2 (by simp)
    have f0 := hrow4.frozen 0 (by simp)
    have f1 := hrow4.frozen 1 (by simp)
    have f2 := hrow4.frozen 2 (by simp)
    simp only [List.getElem_cons_zero, List.getElem_cons_succ] at r0 r1 r2
    obtain ⟨x0, x1, x2⟩ := hbx w4 hb4
    clear hrow4 hrow3 hrow hck
    clear hf
    go_wp2_with fail
    go_region
    go_wp2
    refine bodyPost_ret (v := .tuple #[.agg #[.string (bs A), .string (bs C), .float .f64 N], .string (bs (D.drop 8)), .bool true]) (by simp [results, Try.results27, go_sem, r0, r1, r2]) rfl ⟨rfl, HS.out _ _ _ _ hbw.drew⟩
end Go.Proofs.Ytiojapjidgjaoaa
