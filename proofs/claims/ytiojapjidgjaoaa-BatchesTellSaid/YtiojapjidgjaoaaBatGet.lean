/-
  BATCHES: the program's Get.
-/
import Derived.Test.YtiojapjidgjaoaaBat2
import Derived.Test.YtiojapjidgjaoaaEvRead
namespace Go.Proofs.Ytiojapjidgjaoaa
open Go.RowKit
set_option linter.unusedVariables false

theorem ret_bh {s : ByteArray} {a a' : Int} {m m' : Int} {r r' : ByteArray} {o o' : Bool} {v : Value} (h1 : m = m') (h2 : r = r') (h3 : o = o') : Ending.returned (.tuple #[v, .int .i64 m, .string r, .bool o]) = .returned (.tuple #[v, .int .i64 m', .string r', .bool o']) := by rw [h1, h2, h3]
/-- A batch's front, its events to come. -/
def headV (s : List UInt8) : Value := if frontOk s then .agg #[.string (bs (readA s)), .int .i64 ((getN ((readB s).take 8) : Nat) : Int), .slice none 0 0] else .agg #[.string ⟨#[]⟩, .int .i64 0, .slice none 0 0]
def headN (s : List UInt8) : Nat := if frontOk s then manyB s else 0
def headR (s : List UInt8) : List UInt8 := if frontOk s then pastB s else []

set_option maxHeartbeats 1000000 in
theorem batches_head (s : ByteArray) (w : World) (hs : s.size ≤ 1000000000) :
    Calls Try.prog 53 #[.string s] w fun e w' => e = .returned (.tuple #[headV (lb s), .int .i64 (headN (lb s) : Nat), .string (bs (headR (lb s))), .bool (frontOk (lb s))]) ∧ Below w.heap.size w w' := by
  have hBl : (readB (lb s)).length ≤ 1000000000 := by have := readB_len (lb s); rw [length_lb] at this; omega
  have n1 := fun w => nums_Read s w (by omega)
  have n3 := fun w => nums_Get ((bs (readB (lb s))).extract 0 8) w (by simp [maxLen]; omega)
  have hx : (bs (readB (lb s))).extract 0 8 = bs ((readB (lb s)).take 8) := by rw [bs_extract, lb_bs, List.drop_zero, Nat.sub_zero]
  have hfr : frontOk (lb s) = (readOk (lb s) && decide (9 ≤ (readB (lb s)).length) && decide (getN ((readB (lb s)).take 8) ≤ 1073741824)) := rfl
  have hno : frontOk (lb s) = false → headV (lb s) = .agg #[.string ⟨#[]⟩, .int .i64 0, .slice none 0 0] ∧ headN (lb s) = 0 ∧ headR (lb s) = [] := fun h => by unfold headV headN headR; rw [h]; exact ⟨rfl, rfl, rfl⟩
  have hyes : frontOk (lb s) = true → headV (lb s) = .agg #[.string (bs (readA (lb s))), .int .i64 ((getN ((readB (lb s)).take 8) : Nat) : Int), .slice none 0 0] ∧ headN (lb s) = (((readB (lb s))[8]?).getD 0).toNat ∧ headR (lb s) = (readB (lb s)).drop 9 := fun h => by unfold headV headN headR; rw [h]; exact ⟨rfl, rfl, rfl⟩
  have hz0 := lit_below w (.cells #[.string ⟨#[]⟩, .int .i64 0, .slice none 0 0] 49)
  have hrow : Row (w.alloc (.cells #[.string ⟨#[]⟩, .int .i64 0, .slice none 0 0] 49)) w.heap.size 49 [.string ⟨#[]⟩, .int .i64 0, .slice none 0 0] := Row.new w #[.string ⟨#[]⟩, .int .i64 0, .slice none 0 0] _
  have hst : ∀ (w' : World) v0 v1 v2, Below w.heap.size w w' → Below w.heap.size w (((w'.setCell ⟨w.heap.size, 0, none⟩ v0).setCell ⟨w.heap.size, 1, none⟩ v1).setCell ⟨w.heap.size, 2, none⟩ v2) := fun w' v0 v1 v2 h => ((h.setCell (Nat.le_refl _) _).setCell (Nat.le_refl _) _).setCell (Nat.le_refl _) _
  rw [hx] at n3
  simp only [lb_bs] at n3
  generalize readA (lb s) = A at *
  generalize readB (lb s) = B at *
  generalize readOk (lb s) = o1 at *
  generalize headV (lb s) = hv at *
  generalize headN (lb s) = hn at *
  generalize headR (lb s) = hr at *
  generalize frontOk (lb s) = fo at *
  generalize getN (B.take 8) = N at *
  have HS := Lib.hid hst
  have Hx := Lib.hid hx
  have Hno := Lib.hid hno
  have Hyes := Lib.hid hyes
  clear hst hx hno hyes
  rcases o1 with _ | _
  · obtain rfl : fo = false := by rw [hfr]; rfl
    obtain ⟨rfl, rfl, rfl⟩ := Hno.out rfl
    clear n3 hfr
    go_enter Try.func53, Try.ntmps53
    go_wp2_with fail
    refine (n1 _).mono ?_
    rintro e w1 ⟨rfl, hb1⟩
    have hrow1 := hrow.next hb1
    have r0 := hrow1.cell 0 (by simp)
    have r1 := hrow1.cell 1 (by simp)
    have r2 := hrow1.cell 2 (by simp)
    have f0 := hrow1.frozen 0 (by simp)
    have f1 := hrow1.frozen 1 (by simp)
    have f2 := hrow1.frozen 2 (by simp)
    simp only [List.getElem_cons_zero, List.getElem_cons_succ] at r0 r1 r2
    clear hrow1 n1
    go_wp2
    refine bodyPost_ret (v := .tuple #[.agg #[.string ⟨#[]⟩, .int .i64 0, .slice none 0 0], .int .i64 0, .string ⟨#[]⟩, .bool false]) (by simp [results, Try.results53, go_sem, r0, r1, r2]) rfl ⟨rfl, HS.out _ _ _ _ (below_chain hz0 hb1)⟩
  · by_cases h9 : 9 ≤ B.length
    · have h9' : ¬ (B.length : Int) < 9 := by omega
      have h9'' : (9 : Int) ≤ B.length := by omega
      have h8 : (8 : Int) ≤ B.length := by omega
      have h8' : (8 : Int) < B.length := by omega
      by_cases hN : N ≤ 1073741824
      · have hN' : ¬ (1073741824 : Int) < (N : Int) := by omega
        obtain rfl : fo = true := by rw [hfr, decide_eq_true h9, decide_eq_true hN]; rfl
        obtain ⟨rfl, rfl, rfl⟩ := Hyes.out rfl
        have hx9 : (bs B).extract 9 B.length = bs (B.drop 9) := by rw [bs_extract, lb_bs, List.take_of_length_le (by simp)]
        have h8g : B[8]? = some B[8] := List.getElem?_eq_getElem (by omega)
        have hix : (bs B)[8]'(by rw [size_bs]; omega) = B[8] := rfl
        have hq : (((B[8]?).getD 0).toNat : Int) = (B[8].toNat : Int) := by rw [h8g]; rfl
        rw [hq]
        have u1 : IntKind.i64.wrap (N : Int) = (N : Int) := by rw [IntKind.wrap_i64]; omega
        have hb8 := B[8].toNat_lt
        have u2 : IntKind.i64.wrap (B[8].toNat : Int) = (B[8].toNat : Int) := by rw [IntKind.wrap_i64]; omega
        clear hfr hq h8g
        go_enter Try.func53, Try.ntmps53
        go_wp2_with fail
        refine (n1 _).mono ?_
        rintro e w1 ⟨rfl, hb1⟩
        go_wp2_with fail
        try rw [Hx.out]
        refine (n3 _).mono ?_
        rintro e w' ⟨rfl, rfl⟩
        have hrow1 := hrow.next hb1
        have r0 := hrow1.cell 0 (by simp)
        have r1 := hrow1.cell 1 (by simp)
        have r2 := hrow1.cell 2 (by simp)
        have f0 := hrow1.frozen 0 (by simp)
        have f1 := hrow1.frozen 1 (by simp)
        have f2 := hrow1.frozen 2 (by simp)
        simp only [List.getElem_cons_zero, List.getElem_cons_succ] at r0 r1 r2
        clear hrow1 n1 n3
        go_wp2_with fail
        go_region
        go_wp2
        refine bodyPost_ret (v := .tuple #[.agg #[.string (bs A), .int .i64 (N : Int), .slice none 0 0], .int .i64 (B[8].toNat : Int), .string (bs (B.drop 9)), .bool true]) (by simp [results, Try.results53, go_sem, r0, r1, r2]) rfl ⟨rfl, HS.out _ _ _ _ (below_chain hz0 hb1).drew⟩
      · have hN' : (1073741824 : Int) < (N : Int) := by omega
        obtain rfl : fo = false := by rw [hfr, decide_eq_true h9, decide_eq_false hN]; rfl
        obtain ⟨rfl, rfl, rfl⟩ := Hno.out rfl
        clear hfr
        go_enter Try.func53, Try.ntmps53
        go_wp2_with fail
        refine (n1 _).mono ?_
        rintro e w1 ⟨rfl, hb1⟩
        go_wp2_with fail
        try rw [Hx.out]
        refine (n3 _).mono ?_
        rintro e w' ⟨rfl, rfl⟩
        have hrow1 := hrow.next hb1
        have r0 := hrow1.cell 0 (by simp)
        have r1 := hrow1.cell 1 (by simp)
        have r2 := hrow1.cell 2 (by simp)
        have f0 := hrow1.frozen 0 (by simp)
        have f1 := hrow1.frozen 1 (by simp)
        have f2 := hrow1.frozen 2 (by simp)
        simp only [List.getElem_cons_zero, List.getElem_cons_succ] at r0 r1 r2
        clear hrow1 n1 n3
        go_wp2
        refine bodyPost_ret (v := .tuple #[.agg #[.string ⟨#[]⟩, .int .i64 0, .slice none 0 0], .int .i64 0, .string ⟨#[]⟩, .bool false]) (by simp [results, Try.results53, go_sem, r0, r1, r2]) rfl ⟨rfl, HS.out _ _ _ _ (below_chain hz0 hb1)⟩
    · have h9' : (B.length : Int) < 9 := by omega
      obtain rfl : fo = false := by rw [hfr, decide_eq_false h9]; rfl
      obtain ⟨rfl, rfl, rfl⟩ := Hno.out rfl
      clear n3 hfr
      go_enter Try.func53, Try.ntmps53
      go_wp2_with fail
      refine (n1 _).mono ?_
      rintro e w1 ⟨rfl, hb1⟩
      have hrow1 := hrow.next hb1
      have r0 := hrow1.cell 0 (by simp)
      have r1 := hrow1.cell 1 (by simp)
      have r2 := hrow1.cell 2 (by simp)
      have f0 := hrow1.frozen 0 (by simp)
      have f1 := hrow1.frozen 1 (by simp)
      have f2 := hrow1.frozen 2 (by simp)
      simp only [List.getElem_cons_zero, List.getElem_cons_succ] at r0 r1 r2
      clear hrow1 n1
      go_wp2
      refine bodyPost_ret (v := .tuple #[.agg #[.string ⟨#[]⟩, .int .i64 0, .slice none 0 0], .int .i64 0, .string ⟨#[]⟩, .bool false]) (by simp [results, Try.results53, go_sem, r0, r1, r2]) rfl ⟨rfl, HS.out _ _ _ _ (below_chain hz0 hb1)⟩
def strOf : Value → Nat
  | .string s => s.size
  | _ => 0
def okOf : Value → Nat
  | .bool true => 1
  | _ => 0
theorem restV_less {s : List UInt8} (h : readOkV s = true) : (restV s).length < s.length := by
  have hr : restV s = (lastV s).drop 8 := by unfold restV; rw [h, if_pos rfl]
  unfold readOkV fitV at h
  simp only [Bool.and_eq_true, decide_eq_true_eq] at h
  have h1 := readB_len s
  have h2 := readB_len (readB s)
  have h3 := h.1.2
  rw [hr, List.length_drop]
  unfold lastV at h3 ⊢
  omega
theorem seen_not {L : List UInt8} {k : Nat} (hk : k < manyB L) (h : evsOk (k + 1) (pastB L) = false) : seenB L = false := by
  unfold seenB
  rcases h1 : evsOk (manyB L) (pastB L) with _ | _
  · simp
  · rw [evs_mono h1 hk] at h; cases h
theorem seen_front {L : List UInt8} (h : frontOk L = false) : seenB L = false := by unfold seenB; rw [h]; rfl
theorem row_agg {w : World} {g : Nat} {t : TypeId} {a b c : Value} (h : Row w g t [a, b, c]) : w.cell? ⟨g, 0, none⟩ = some a ∧ w.cell? ⟨g, 1, none⟩ = some b ∧ w.cell? ⟨g, 2, none⟩ = some c ∧ w.frozen? ⟨g, 0, none⟩ = false ∧ w.frozen? ⟨g, 1, none⟩ = false ∧ w.frozen? ⟨g, 2, none⟩ = false :=
  ⟨h.cell 0 (by simp), h.cell 1 (by simp), h.cell 2 (by simp), h.frozen 0 (by simp), h.frozen 1 (by simp), h.frozen 2 (by simp)⟩
theorem batV_none (w : World) : BatV w (.agg #[.string ⟨#[]⟩, .int .i64 0, .slice none 0 0]) (ByteArray.empty, 0, []) :=
  ⟨none, 0, rfl, ⟨Reads.nil _ _, by simp⟩, Nat.zero_le _, by decide, by decide⟩

set_option maxHeartbeats 4000000 in
theorem batches_Get (s : ByteArray) (w : World) (hs : s.size ≤ 1000000000) :
    Calls Try.prog 37 #[.string s] w fun e w' => ∃ v, e = .returned (.tuple #[v, .int .i64 (batE (lb s))]) ∧ BatV w' v (batV (lb s)) ∧ Below w.heap.size w w' := by
  have hh := fun w => batches_head s w hs
  have hLl : (lb s).length ≤ 1000000000 := by rw [length_lb]; exact hs
  have hz0 := lit_below w (.cells #[.string ⟨#[]⟩, .int .i64 0, .slice none 0 0] 49)
  have hrow : Row (w.alloc (.cells #[.string ⟨#[]⟩, .int .i64 0, .slice none 0 0] 49)) w.heap.size 49 [.string ⟨#[]⟩, .int .i64 0, .slice none 0 0] := Row.new w #[.string ⟨#[]⟩, .int .i64 0, .slice none 0 0] _
  have hst : ∀ (w' : World) v0 v1 v2, Below w.heap.size w w' → Below w.heap.size w (((w'.setCell ⟨w.heap.size, 0, none⟩ v0).setCell ⟨w.heap.size, 1, none⟩ v1).setCell ⟨w.heap.size, 2, none⟩ v2) := fun w' v0 v1 v2 h => ((h.setCell (Nat.le_refl _) _).setCell (Nat.le_refl _) _).setCell (Nat.le_refl _) _
  have HS := Lib.hid hst
  clear hst
  generalize lb s = L at hh hLl ⊢
  have hnone : seenB L = false → batE L = 10 ∧ batV L = (ByteArray.empty, 0, []) := fun h => by unfold batE batV; rw [h]; exact ⟨rfl, rfl⟩
  have Hnone := Lib.hid hnone
  clear hnone
  rcases hfo : frontOk L with _ | _
  · have hv : headV L = .agg #[.string ⟨#[]⟩, .int .i64 0, .slice none 0 0] := by unfold headV; rw [hfo]; rfl
    have hr : headR L = [] := by unfold headR; rw [hfo]; rfl
    obtain ⟨e1, e2⟩ := Hnone.out (seen_front hfo)
    rw [hfo, hv, hr] at hh
    rw [e1, e2]
    generalize headN L = m at hh
    clear hfo hv hr e1 e2
    go_enter Try.func37, Try.ntmps37
    go_wp2_with fail
    refine (hh _).mono ?_
    rintro e w1 ⟨rfl, hb1⟩
    have hrow1 := hrow.next hb1
    have hb2 := below_chain hz0 (below_chain hb1 (lit_below w1 (.cells #[.string ⟨#[]⟩, .int .i64 0, .slice none 0 0] 49)))
    have hrow2 := hrow1.alloc (.cells #[.string ⟨#[]⟩, .int .i64 0, .slice none 0 0] 49)
    clear hh hrow hrow1 hb1
    go_wp2_with fail
    go_loopw [7] (fun ok wr => ok = .bool false ∧ Row wr w.heap.size 49 [.string ⟨#[]⟩, .int .i64 0, .slice none 0 0] ∧ Below w.heap.size w wr) (fun _ _ => 0)
    case atStart => exact ⟨rfl, hrow2, hb2⟩
    case round =>
      obtain ⟨rfl, hrw, hbr⟩ := hrel
      obtain ⟨r0, r1, r2, f0, f1, f2⟩ := row_agg hrw
      clear hrow2 hb2
      go_wp2
      refine bodyPost_ret (v := .tuple #[.agg #[.string ⟨#[]⟩, .int .i64 0, .slice none 0 0], .int .i64 10]) (by simp [results, Try.results37, go_sem, r0, r1, r2]) rfl ⟨_, rfl, batV_none _, HS.out _ _ _ _ hbr⟩
  · have hv : headV L = .agg #[.string (bs (readA L)), .int .i64 ((getN ((readB L).take 8) : Nat) : Int), .slice none 0 0] := by unfold headV; rw [hfo]; rfl
    have hr : headR L = pastB L := by unfold headR; rw [hfo]; rfl
    have hm : headN L = manyB L := by unfold headN; rw [hfo]; rfl
    rw [hfo, hv, hr, hm] at hh
    have hm256 : manyB L ≤ 255 := by unfold manyB; have := ((readB L)[8]?.getD 0).toNat_lt; omega
    have hrl : (pastB L).length ≤ 1000000000 := by unfold pastB; rw [List.length_drop]; have := readB_len L; omega
    have hAl : (readA L).length ≤ 1000000000 := by have := readA_len L; omega
    have hNl : getN ((readB L).take 8) ≤ 1073741824 := by
      unfold frontOk at hfo
      simp only [Bool.and_eq_true, decide_eq_true_eq] at hfo
      exact hfo.2
    have hgot : gotB L = (bs (readA L), ((getN ((readB L).take 8) : Nat) : Int), evsL (manyB L) (pastB L)) := rfl
    have hseen : evsOk (manyB L) (pastB L) = true → seenB L = ((evsR (manyB L) (pastB L) == []) && decide (checkB (gotB L) = 0)) := fun h => by unfold seenB; rw [hfo, h]; simp
    have hyes : seenB L = true → batE L = 0 ∧ batV L = gotB L := fun h => by unfold batE batV; rw [h]; exact ⟨rfl, rfl⟩
    have hnot := fun k => seen_not (L := L) (k := k)
    have hokV := okV_evs (r := pastB L)
    have hEl := fun k => evsL_length k (pastB L)
    obtain ⟨i0, hi0, hz0', hz1, hz2⟩ := info_parts infoEv
    generalize manyB L = m at *
    generalize pastB L = r0 at *
    generalize readA L = A at *
    generalize getN ((readB L).take 8) = N at *
    have Hgot := Lib.hid hgot
    have Hseen := Lib.hid hseen
    have Hyes := Lib.hid hyes
    have Hnot := Lib.hid hnot
    have HokV := Lib.hid hokV
    have HEl := Lib.hid hEl
    clear hgot hseen hyes hnot hokV hEl hfo hv hr hm
    go_enter Try.func37, Try.ntmps37
    go_wp2_with fail
    refine (hh _).mono ?_
    rintro e w1 ⟨rfl, hb1⟩
    have hrow1 := hrow.next hb1
    have hb2 := below_chain hz0 (below_chain hb1 (lit_below w1 (.cells #[.string (bs A), .int .i64 (N : Int), .slice none 0 0] 49)))
    have hrow2 := hrow1.alloc (.cells #[.string (bs A), .int .i64 (N : Int), .slice none 0 0] 49)
    have hrowG := Row.new w1 #[.string (bs A), .int .i64 (N : Int), .slice none 0 0] 49
    have hRG : w.heap.size < w1.heap.size := hrow1.lt
    clear hh hrow hrow1 hb1
    go_wp2_with fail
    obtain ⟨G, hG⟩ : ∃ G, G = w1.heap.size := ⟨_, rfl⟩
    rw [← hG] at hrowG hRG ⊢
    clear hG
    generalize w1.alloc (.cells #[.string (bs A), .int .i64 (N : Int), .slice none 0 0] 49) = w2 at hrow2 hb2 hrowG ⊢
    have hGb := hrowG.lt
    have hown0 : w2.ownsRow w2.heap.size 28 3 (.slice none 0 0) 0 ((evsL 0 r0).flatMap evL) := World.ownsRow_nil _ _ _ _
    go_loopw [6, 7] (fun rest ok wr => ((∃ (k : Nat) (v : Value), k ≤ m ∧ ok = .bool true ∧ rest = .string (bs (evsR k r0)) ∧ evsOk k r0 = true ∧ Row wr G 49 [.string (bs A), .int .i64 (N : Int), v] ∧ wr.ownsRow w2.heap.size 28 3 v k ((evsL k r0).flatMap evL)) ∨ (∃ u : ByteArray, ok = .bool false ∧ rest = .string u ∧ seenB L = false)) ∧
      Row wr w.heap.size 49 [.string ⟨#[]⟩, .int .i64 0, .slice none 0 0] ∧ Below w.heap.size w wr ∧ w2.heap.size ≤ wr.heap.size) (fun rest ok _ => okOf ok * (1 + strOf rest))
    case atStart => exact ⟨.inl ⟨0, _, Nat.zero_le _, rfl, rfl, rfl, hrowG, hown0⟩, hrow2, hb2, Nat.le_refl _⟩
    case round =>
      obtain ⟨hmode, hrw, hbr, hsz⟩ := hrel
      clear hrowG hown0 hrow2 hb2
      rcases hmode with ⟨k, v, hk, rfl, rfl, hev, hrg, hown⟩ | ⟨u, rfl, rfl, hns⟩
      · obtain ⟨A', c', rfl, -, -, -, -⟩ := Reads.of_own hown
        obtain ⟨g0, g1, g2, q0, q1, q2⟩ := row_agg hrg
        have Hown := Lib.hid hown
        have Hev := Lib.hid hev
        clear hown hev
        by_cases hlt : k < m
        · have i1 : (k : Int) < m := by omega
          have hRl := evsR_len k r0
          have hread := fun w => events_Read (bs (evsR k r0)) w (by rw [size_bs]; omega)
          simp only [lb_bs] at hread
          have s1 : evsL (k + 1) r0 = evsL k r0 ++ [readV (evsR k r0)] := rfl
          have s2 : evsR (k + 1) r0 = restV (evsR k r0) := rfl
          have s3 : evsOk (k + 1) r0 = (evsOk k r0 && readOkV (evsR k r0)) := rfl
          have s4 : readOkV (evsR k r0) = true → (restV (evsR k r0)).length < (evsR k r0).length := restV_less
          have hx1 := Row.new wr #[.string ⟨#[]⟩, .string ⟨#[]⟩, .float .f64 0] 28
          have z1 := lit_below wr (.cells #[.string ⟨#[]⟩, .string ⟨#[]⟩, .float .f64 0] 28)
          have hno := Hnot.out k hlt
          rw [s3, Hev.out, Bool.true_and] at hno
          rw [Hev.out, Bool.true_and] at s3
          generalize readV (evsR k r0) = e at hread s1
          generalize restV (evsR k r0) = R' at hread s2 s4
          generalize readOkV (evsR k r0) = o at hread s3 s4 hno
          generalize evsR k r0 = Rk at hread hRl s4 ⊢
          have hlit := fun w => ev_lit w e
          have hone := evL_one [e]
          have hsL : (evsL (k + 1) r0).flatMap evL = (evsL k r0).flatMap evL ++ [e].flatMap evL := by rw [s1, List.flatMap_append]
          obtain ⟨e1, e2, e3⟩ := e
          unfold evC at hread hlit
          simp only [] at hread hlit
          have S1 := Lib.hid hsL
          have S2 := Lib.hid s2
          have S3 := Lib.hid s3
          have S4 := Lib.hid s4
          have Hno := Lib.hid hno
          have Hlit := Lib.hid hlit
          have Hrg := Lib.hid hrg
          have Hrw := Lib.hid hrw
          have hne : G ≠ wr.heap.size := by omega
          clear s1 hsL s2 s3 s4 hno hlit hrg hrw g0 g1 q0 q1 q2
          go_wp2_with fail
          refine (hread _).mono ?_
          rintro y w3 ⟨rfl, hb3⟩
          clear g2
          obtain ⟨x0, x1, x2, y0, y1, y2⟩ := row_agg (hx1.next hb3)
          have hbX := (((below_chain z1 hb3).setCell (p := ⟨wr.heap.size, 0, none⟩) (Nat.le_refl _) (.string e1)).setCell (p := ⟨wr.heap.size, 1, none⟩) (Nat.le_refl _) (.string e2)).setCell (p := ⟨wr.heap.size, 2, none⟩) (Nat.le_refl _) (.float .f64 e3)
          obtain ⟨W3, hW3⟩ : ∃ W, W = ((w3.setCell ⟨wr.heap.size, 0, none⟩ (.string e1)).setCell ⟨wr.heap.size, 1, none⟩ (.string e2)).setCell ⟨wr.heap.size, 2, none⟩ (.float .f64 e3) := ⟨_, rfl⟩
          have hx3 := (((hx1.next hb3).set 0 (.string e1)).set 1 (.string e2)).set 2 (.float .f64 e3)
          rw [← hW3] at hbX hx3
          obtain ⟨X0, X1, X2, -, -, -⟩ := row_agg hx3
          obtain ⟨-, -, G2, -, -, -⟩ := row_agg (Hrg.out.next hbX)
          have hb4 := hbX.alloc hbX.size (.cells #[.string e1, .string e2, .float .f64 e3] 28)
          have hown4 := own_next Hown.out hb4
          have hr4 := Hlit.out W3
          have hsz3 : W3.heap.size = w3.heap.size := by rw [hW3]; simp
          rw [hsz3] at hr4
          clear hsz3
          have hrg4 := Hrg.out.next hb4
          have hrw4 := Hrw.out.next hb4
          rw [hW3] at X0 X1 X2 G2 hb4 hown4 hr4 hrg4 hrw4
          clear hx1 hx3 z1 hread hW3 hbX
          go_wp2_with (first
            | (at_builtin; refine wpList_append_reads _ rfl _ _ 38 rfl w2.heap.size 28 i0 _ 3 40 Try.underlying38 hi0 hz0' hz1 hz2 rfl (by decide) _ k _ rfl hown4 _ 1 ([(e1, e2, e3)].flatMap evL) rfl hr4 hone (by unfold maxLen; omega) (by omega) (by have := hb4.size; omega) ?_; intro v5 w5 hown5 hg5; obtain ⟨A5, c5, rfl, -, -, -, -⟩ := Reads.of_own hown5; have hrg5 := hrg4.grown hg5 (fun h => by have := own_block_ge hown4 G h.symm; omega); obtain ⟨g0', g1', g2', q0', q1', q2'⟩ := row_agg hrg5))
          have hwb : w.heap.size ≤ w2.heap.size := by omega
          have hbw4 := hbr.trans (hb4.mono hbr.size)
          have hbw5 := hbw4.grown hg5 hbw4.size (fun k hk => Nat.le_trans hwb (own_block_ge hown4 k hk))
          have hrw5 := hrw4.grown hg5 (fun h => by have := own_block_ge hown4 _ h.symm; omega)
          have hsz5 : w2.heap.size ≤ w5.heap.size := Nat.le_trans hsz (Nat.le_trans hb4.size hg5.size)
          have P1 := Lib.hid (hrg5.set 2 (.slice A5 (k + 1) c5))
          have P2 := Lib.hid (ownsRow_setCell_below hown5 (a := ⟨G, 2, none⟩) hGb (.slice A5 (k + 1) c5))
          have P3 := Lib.hid (hrw5.far (p := ⟨G, 2, none⟩) (by show w.heap.size ≠ G; omega) (.slice A5 (k + 1) c5))
          have P4 := Lib.hid (hbw5.setCell (p := ⟨G, 2, none⟩) (by show w.heap.size ≤ G; omega) (.slice A5 (k + 1) c5))
          clear hbw4 hbw5 hrw5 hrg5 hown5 hb4 hown4 hrg4 hrw4
          rcases o with _ | _
          · go_wp2
            go_roundw
            case rel => exact ⟨Hno.out trivial, P3.out, P4.out⟩
            case measure => simp [okOf, strOf]; omega
          · go_wp2
            go_roundw
            case rel => exact ⟨⟨k + 1, by omega, by rw [S2.out], S3.out, .slice A5 (k + 1) c5, P1.out, by rw [S1.out]; exact P2.out⟩, P3.out, P4.out⟩
            case measure => (have h4 := S4.out trivial); simp [okOf, strOf, size_bs]; omega
        · obtain rfl : k = m := by omega
          have i1 : ¬ (k : Int) < k := by omega
          have hown := Hown.out
          have hE : Evs wr (.slice A' k c') (evsL k r0) := ⟨by have := Reads.of_own hown; rw [HEl.out]; exact this, HokV.out k (by unfold maxLen; omega)⟩
          have hseen := Hseen.out Hev.out
          have hB : BatV wr (.agg #[.string (bs A), .int .i64 (N : Int), .slice A' k c']) (gotB L) := by
            rw [Hgot.out]
            refine ⟨A', c', by simp only []; rw [HEl.out], by simp only []; rw [HEl.out]; exact hE, by simp only [size_bs]; unfold maxLen; omega, by simp only []; omega, by simp only []; omega⟩
          have hck := batches_Check _ _ wr hB
          have HB := Lib.hid hB
          have Hrw := Lib.hid hrw
          have Hown' := Lib.hid hown
          clear hown hE hB hrw
          rcases hR : (evsR k r0 == ([] : List UInt8)) with _ | _
          · rw [hR, Bool.false_and] at hseen
            obtain ⟨e1, e2⟩ := Hnone.out hseen
            have E1 := Lib.hid e1
            have E2 := Lib.hid e2
            obtain ⟨r0', r1, r2, f0, f1, f2⟩ := row_agg Hrw.out
            clear e1 e2 hseen hck
            go_wp2
            refine bodyPost_ret (v := .tuple #[.agg #[.string ⟨#[]⟩, .int .i64 0, .slice none 0 0], .int .i64 10]) (by simp [results, Try.results37, go_sem, r0', r1, r2]) rfl ⟨_, by rw [E1.out], by rw [E2.out]; exact batV_none _, HS.out _ _ _ _ hbr⟩
          · rw [hR, Bool.true_and] at hseen
            generalize checkB (gotB L) = ck at hseen hck
            by_cases hc0 : ck = 0
            · rw [decide_eq_true hc0] at hseen
              obtain ⟨e1, e2⟩ := Hyes.out hseen
              have E1 := Lib.hid e1
              have E2 := Lib.hid e2
              subst hc0
              clear e1 e2 hseen
              go_wp2_with fail
              refine hck.mono ?_
              rintro y w3 ⟨rfl, hb3⟩
              obtain ⟨r0', r1, r2, f0, f1, f2⟩ := row_agg (Hrw.out.next hb3)
              obtain ⟨h0, h1, h2, -, -, -⟩ := row_agg (hrg.next hb3)
              have hown3 := own_next Hown'.out hb3
              have hwb : w.heap.size < w2.heap.size := by omega
              have hown6 := ownsRow_setCell_below (ownsRow_setCell_below (ownsRow_setCell_below hown3 (a := ⟨w.heap.size, 0, none⟩) hwb (.string (bs A))) (a := ⟨w.heap.size, 1, none⟩) hwb (.int .i64 (N : Int))) (a := ⟨w.heap.size, 2, none⟩) hwb (.slice A' k c')
              have Hown6 := Lib.hid hown6
              clear hown3 hown6 hck g0 g1 g2 q0 q1 q2
              go_wp2
              refine bodyPost_ret (v := .tuple #[.agg #[.string (bs A), .int .i64 (N : Int), .slice A' k c'], .int .i64 0]) (by simp [results, Try.results37, go_sem, r0', r1, r2]) rfl ⟨_, by rw [E1.out], ?_, HS.out _ _ _ _ (below_more hbr hb3 (Nat.le_refl _))⟩
              rw [E2.out]
              obtain ⟨A2, c2, q1, q2, q3⟩ := HB.out
              refine ⟨A2, c2, q1, ⟨?_, q2.2⟩, q3⟩
              have hv : (Value.slice A2 (gotB L).2.2.length c2) = .slice A' k c' := by
                have := q1
                simp only [Value.agg.injEq] at this
                have h3 := congrArg (fun a : Array Value => a[2]?) this
                simpa using h3.symm
              rw [hv]
              have := Reads.of_own Hown6.out
              rw [Hgot.out]
              simp only []
              rw [HEl.out]
              exact this
            · rw [decide_eq_false hc0] at hseen
              obtain ⟨e1, e2⟩ := Hnone.out hseen
              have E1 := Lib.hid e1
              have E2 := Lib.hid e2
              have hc0' : (ck == 0) = false := by rw [beq_eq_false_iff_ne]; exact hc0
              clear e1 e2 hseen
              go_wp2_with fail
              refine hck.mono ?_
              rintro y w3 ⟨rfl, hb3⟩
              obtain ⟨r0', r1, r2, f0, f1, f2⟩ := row_agg (Hrw.out.next hb3)
              clear hck g0 g1 g2 q0 q1 q2
              go_wp2
              refine bodyPost_ret (v := .tuple #[.agg #[.string ⟨#[]⟩, .int .i64 0, .slice none 0 0], .int .i64 10]) (by simp [results, Try.results37, go_sem, r0', r1, r2]) rfl ⟨_, by rw [E1.out], by rw [E2.out]; exact batV_none _, HS.out _ _ _ _ (below_more hbr hb3 (Nat.le_refl _))⟩
      · obtain ⟨e1, e2⟩ := Hnone.out hns
        obtain ⟨r0', r1, r2, f0, f1, f2⟩ := row_agg hrw
        have E1 := Lib.hid e1
        have E2 := Lib.hid e2
        clear hrw e1 e2 hns
        go_wp2
        refine bodyPost_ret (v := .tuple #[.agg #[.string ⟨#[]⟩, .int .i64 0, .slice none 0 0], .int .i64 10]) (by simp [results, Try.results37, go_sem, r0', r1, r2]) rfl ⟨_, by rw [E1.out], by rw [E2.out]; exact batV_none _, HS.out _ _ _ _ hbr⟩
end Go.Proofs.Ytiojapjidgjaoaa
