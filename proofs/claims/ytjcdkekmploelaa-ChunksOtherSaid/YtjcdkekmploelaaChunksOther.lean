/-
  Rows.ChunksOtherSaid: with any byte of its head another one it is no chunk's; nor is it another number's.
-/
import Derived.Test.YtjcdkekmploelaaChunked
import Derived.Test.YtjcdkekmploelaaChunksTorn
import Derived.Test.YtjcdkekmploelaaOpenPair
namespace Go.Proofs.Ytjcdkekmploelaa
open Go.RowKit
set_option linter.unusedVariables false

theorem headL_inj {a b : Nat} (ha : a ≤ 199) (hb : b ≤ 199) (h : headL (a : Int) = headL (b : Int)) : a = b := by
  rw [headL_yes ha, headL_yes hb] at h
  unfold sealL at h
  have h1 := (List.append_inj h (by simp)).1
  have h2 := List.append_cancel_left h1
  have h3 := congrArg num h2
  rw [num_be, num_be] at h3
  omega
/-- A head, and something behind it. -/
theorem other_ok {a b : Nat} (ha : a ≤ 199) (hb : b ≤ 199) (r : List UInt8) (hr : 0 < r.length) : cOk (headL (a : Int) ++ r) (b : Int) = decide ((a : Int) = b) := by
  have la := headL_length ha
  have lb_ := headL_length hb
  unfold cOk
  rw [headL_ne hb, Bool.true_and]
  have h2 : pre (headL (b : Int)) (headL (a : Int) ++ r) = false := by unfold pre; rw [decide_eq_false (by rw [List.length_append]; omega)]; rfl
  have h1 : pre (headL (a : Int) ++ r) (headL (b : Int)) = (headL (a : Int) == headL (b : Int)) := by
    unfold pre; rw [decide_eq_true (by rw [List.length_append]; omega), Bool.true_and, lb_, ← la, List.take_left]
  rw [h1, h2, Bool.or_false, Bool.eq_iff_iff, beq_iff_eq, decide_eq_true_iff]
  constructor
  · intro h; exact congrArg _ (headL_inj ha hb h)
  · intro h; rw [h]
theorem xor_zero_iff (x d : UInt8) : (x ^^^ d = x) ↔ d = 0 := by
  constructor
  · exact xor_eq_self
  · rintro rfl; simp
/-- A byte of the head, turned. -/
theorem other_turned {a : Nat} (ha : a ≤ 199) (r : List UInt8) (hr : 0 < r.length) (k : Nat) (hk : k < 12) (x d : UInt8) (hx : (headL (a : Int) ++ r)[k]? = some x) :
    cOk ((headL (a : Int) ++ r).set k (x ^^^ d)) (a : Int) = decide (d = 0) ∧ (d ≠ 0 → cFull ((headL (a : Int) ++ r).set k (x ^^^ d)) (a : Int) = false) := by
  have la := headL_length ha
  have hkx : (headL (a : Int))[k]? = some x := by rw [← hx, List.getElem?_append_left (by omega)]
  unfold cOk cFull
  rw [headL_ne ha, Bool.true_and, Bool.true_and, List.set_append_left _ _ (by omega)]
  have h2 : pre (headL (a : Int)) ((headL (a : Int)).set k (x ^^^ d) ++ r) = false := by unfold pre; rw [decide_eq_false (by rw [List.length_append, List.length_set]; omega)]; rfl
  have h1 : pre ((headL (a : Int)).set k (x ^^^ d) ++ r) (headL (a : Int)) = ((headL (a : Int)).set k (x ^^^ d) == headL (a : Int)) := by
    unfold pre
    have ls : ((headL (a : Int)).set k (x ^^^ d)).length = (headL (a : Int)).length := List.length_set
    rw [decide_eq_true (by rw [List.length_append, List.length_set]; omega), Bool.true_and, ← ls, List.take_left]
  have h3 : ((headL (a : Int)).set k (x ^^^ d) == headL (a : Int)) = decide (d = 0) := by
    rw [Bool.eq_iff_iff, beq_iff_eq, decide_eq_true_iff]
    constructor
    · intro h
      have h4 := congrArg (·[k]?) h
      simp only [List.getElem?_set_self (show k < (headL (a : Int)).length by omega), hkx, Option.some.injEq] at h4
      exact (xor_zero_iff x d).1 h4
    · rintro rfl
      have : x ^^^ 0 = x := by simp
      rw [this]
      apply List.ext_getElem?
      intro i
      by_cases hi : i = k
      · subst hi; rw [List.getElem?_set_self (by omega), hkx]
      · rw [List.getElem?_set_ne (by omega)]
  rw [h1, h2, h3, Bool.or_false]
  exact ⟨rfl, fun h => decide_eq_false h⟩

set_option maxHeartbeats 2000000 in
theorem ChunksOther_walk (n : Int) (other : Int) (v : Value) (at_ : Int × Int) (w : World) (hn : 0 ≤ n ∧ n ≤ 255) (ho : 0 ≤ other ∧ other ≤ 255) (hv : PairIs v at_) :
    Calls Try.prog 14 #[.int .u8 n, .int .u8 other, v] w fun e w' => e = .returned (.bool true) ∧ Below w.heap.size w w' := by
  obtain ⟨p, rfl⟩ := Int.eq_ofNat_of_zero_le hn.1
  obtain ⟨o, rfl⟩ := Int.eq_ofNat_of_zero_le ho.1
  obtain ⟨x0, x1⟩ := at_
  obtain ⟨rfl, h0, h1⟩ := hv
  obtain ⟨y0, rfl⟩ := Int.eq_ofNat_of_zero_le h0.1
  obtain ⟨y1, rfl⟩ := Int.eq_ofNat_of_zero_le h1.1
  have hp : p ≤ 255 := by have := hn.2; omega
  have ho' : o ≤ 255 := by have := ho.2; omega
  have hy0 : y0 ≤ 255 := by have := h0.2; simp at this; omega
  have hy1 : y1 ≤ 255 := by have := h1.2; simp at this; omega
  clear hn ho h0 h1
  obtain ⟨a, hae⟩ : ∃ a, a = p % 200 := ⟨_, rfl⟩
  have ha1 : a ≤ 199 := by omega
  have ha2 : (p : Int) % 200 = (a : Int) := by rw [hae, Int.natCast_emod]; congr 1
  obtain ⟨b, hbe⟩ : ∃ a, a = o % 200 := ⟨_, rfl⟩
  have hb1 : b ≤ 199 := by omega
  have hb2 : (o : Int) % 200 = (b : Int) := by rw [hbe, Int.natCast_emod]; congr 1
  obtain ⟨k, hke⟩ : ∃ a, a = y0 % 12 := ⟨_, rfl⟩
  have hk1 : k ≤ 11 := by omega
  have hk2 : (y0 : Int) % 12 = (k : Int) := by rw [hke, Int.natCast_emod]; congr 1
  have q1 : (p : Int) ≤ 255 := by omega
  have q2 : (o : Int) ≤ 255 := by omega
  have q3 : (y0 : Int) ≤ 255 := by omega
  have q4 : (y1 : Int) ≤ 255 := by omega
  clear hae hbe hke
  go_enter Try.func14, Try.ntmps14
  go_wp2_with fail
  simp only [ha2, hb2]
  obtain ⟨G, hG⟩ : ∃ G, G = w.heap.size := ⟨_, rfl⟩
  have hblk : (w.alloc (.cells #[.int .u8 (y0 : Int), .int .u8 (y1 : Int)] 52)).heap[G]? = some (.cells #[.int .u8 (y0 : Int), .int .u8 (y1 : Int)] 52 (0, 0)) := by rw [hG]; exact heap_alloc_new w _
  have hbw0 : Below w.heap.size w (w.alloc (.cells #[.int .u8 (y0 : Int), .int .u8 (y1 : Int)] 52)) := below_lit _ _
  have hGlt : G < (w.alloc (.cells #[.int .u8 (y0 : Int), .int .u8 (y1 : Int)] 52)).heap.size := (Array.getElem?_eq_some_iff.1 hblk).1
  rw [← hG]
  have hGw : w.heap.size ≤ G := by rw [hG]; exact Nat.le_refl _
  generalize (w.alloc (.cells #[.int .u8 (y0 : Int), .int .u8 (y1 : Int)] 52)) = w0 at hblk hbw0 hGlt ⊢
  have hc0 : ∀ w', Below w0.heap.size w0 w' → w'.cell? ⟨G, 0, none⟩ = some (.int .u8 (y0 : Int)) := fun w' h => (h.cell (p := ⟨G, 0, none⟩) hGlt).trans (by unfold World.cell?; rw [hblk]; rfl)
  have hc1 : ∀ w', Below w0.heap.size w0 w' → w'.cell? ⟨G, 1, none⟩ = some (.int .u8 (y1 : Int)) := fun w' h => (h.cell (p := ⟨G, 1, none⟩) hGlt).trans (by unfold World.cell?; rw [hblk]; rfl)
  clear hG hblk
  refine (records_Put _ _ (by decide)).mono ?_
  rintro e w1 ⟨rfl, hb1'⟩
  obtain ⟨R, hR, hRl⟩ : ∃ R : List UInt8, R = putR (lb ⟨#[120]⟩) ∧ R.length = 13 := ⟨_, rfl, by decide +kernel⟩
  rw [← hR]; clear hR
  have hHl := headL_length ha1
  have hoth := other_ok ha1 hb1 R (by omega)
  have hx0 : k < (headL (a : Int) ++ R).length := by rw [List.length_append]; omega
  obtain ⟨x, hx⟩ : ∃ x, (headL (a : Int) ++ R)[k]? = some x := ⟨_, List.getElem?_eq_getElem hx0⟩
  obtain ⟨d, hd⟩ : ∃ d : UInt8, d = UInt8.ofNat y1 := ⟨_, rfl⟩
  have hdn : d.toNat = y1 := by rw [hd]; simp; omega
  have hd0 : d = 0 ↔ y1 = 0 := by
    constructor
    · intro h; rw [← hdn, h]; rfl
    · intro h; rw [hd, h]; rfl
  obtain ⟨tu1, tu2⟩ := other_turned ha1 R (by omega) k (by omega) x d hx
  have hH := chunks_Head (a : Int) w1 (by omega)
  have hS1 := fun s w h => chunks_Scan s (b : Int) w h (by omega)
  have hS2 := fun s w h => chunks_Scan s (a : Int) w h (by omega)
  obtain ⟨T, hT⟩ : ∃ T, T = headL (a : Int) ++ R := ⟨_, rfl⟩
  have hTl : T.length = 25 := by rw [hT, List.length_append]; omega
  rw [← hT] at hoth hx tu1 tu2
  have HH := Lib.hid hH
  have HS1 := Lib.hid hS1
  have HS2 := Lib.hid hS2
  have Hoth := Lib.hid hoth
  have Tu1 := Lib.hid tu1
  have Tu2 := Lib.hid tu2
  have HT := Lib.hid hT
  have Hx := Lib.hid hx
  have Hd0 := Lib.hid hd0
  have Hc0 := Lib.hid hc0
  have Hc1 := Lib.hid hc1
  clear hH hS1 hS2 hoth tu1 tu2 hT hx hd hd0 hc0 hc1 hx0
  go_wp2_with fail
  refine HH.out.mono ?_
  rintro e w2 ⟨rfl, hb2'⟩
  obtain ⟨w3, cap, hrun, hrow, hb3, hcap⟩ := conv_bytes (P := Try.prog) w2 9 42 5 (bs (headL (a : Int)) ++ bs R) Try.underlying9 Try.underlying42 Try.underlying5
  have hbs : bs (headL (a : Int)) ++ bs R = bs T := by rw [bs_append, HT.out]
  have hsz : (bs (headL (a : Int)) ++ bs R).size = 25 := by rw [hbs, size_bs, hTl]
  rw [hsz] at hrun hcap
  rw [hbs, lb_bs] at hrow
  obtain ⟨B, hB⟩ : ∃ B, B = w2.heap.size := ⟨_, rfl⟩
  have hbw2 : Below w0.heap.size w0 w2 := below_chain hb1' hb2'
  have hGB : G < B := by rw [hB]; exact Nat.lt_of_lt_of_le hGlt hbw2.size
  have hwB : w.heap.size ≤ B := by omega
  have h0B : w0.heap.size ≤ B := by rw [hB]; exact hbw2.size
  rw [← hB] at hrow hrun
  have hbw3 : Below w0.heap.size w0 w3 := below_chain hbw2 hb3
  have hcv := Row.conv (P := Try.prog) (cap := cap) (n := 25) hrow hTl Try.underlying42 Try.underlying5 Try.underlying9
  have hTs : (bs T).size ≤ 1000000000000 := by rw [size_bs, hTl]; decide
  have HTs := Lib.hid hTs
  have Hbs := Lib.hid hbs
  clear hB hbs hTs hb3 hb2' hb1'
  have hHs : (bs (headL (a : Int))).size = 12 := by rw [size_bs, hHl]
  generalize bs (headL (a : Int)) = H at *
  go_wp2_with fail
  refine (HS1.out _ _ HTs.out).mono ?_
  rw [lb_bs]
  rintro e w4 ⟨v4, rfl, -, hb4⟩
  rw [Hoth.out]
  have hbw4 : Below w0.heap.size w0 w4 := below_chain hbw3 hb4
  have hrow4 := hrow.next hb4
  have hc04 := Hc0.out w4 hbw4
  have hc14 := Hc1.out w4 hbw4
  have hcx : w4.cell? ⟨B, k, none⟩ = some (.int .u8 (x.toNat : Int)) := by
    rw [hrow4.cell k (by rw [length_cellsB]; omega), cellsB_getElem]
    have := Hx.out
    rw [List.getElem?_eq_getElem (by omega)] at this
    rw [Option.some.inj this]
  have hfz := hrow4.frozen k (by rw [length_cellsB]; omega)
  have hxl := x.toNat_lt
  have ed : bits BinOp.xor IntKind.u8 (x.toNat : Int) (y1 : Int) = ((x ^^^ d).toNat : Int) := by
    rw [← hdn, u8_xor_nat _ _ hxl d.toNat_lt, UInt8.toNat_xor]
  have hset := hrow4.set k (.int .u8 (bits BinOp.xor IntKind.u8 (x.toNat : Int) (y1 : Int)))
  rw [ed, cellsB_set _ _ _ (by omega) (by have := (x ^^^ d).toNat_lt; omega)] at hset
  have e5 : UInt8.ofNat (((x ^^^ d).toNat : Int)).toNat = x ^^^ d := by simp
  rw [e5] at hset
  have hbB : Below w0.heap.size w0 (w4.setCell ⟨B, k, none⟩ (.int .u8 (bits BinOp.xor IntKind.u8 (x.toNat : Int) (y1 : Int)))) := hbw4.setCell (p := ⟨B, k, none⟩) h0B _
  rw [← ed] at hset
  have i1 : (k : Int) < 25 := by omega
  have Hset := Lib.hid hset
  have HbB := Lib.hid hbB
  have Hed := Lib.hid ed
  clear hset hbB ed e5 hcv hrun hrow hrow4
  go_wp2_with fail
  go_region
  have hrow5 := Hset.out.drew
  have hbw5 := HbB.out.drew
  generalize (w4.setCell ⟨B, k, none⟩ (.int .u8 (bits BinOp.xor IntKind.u8 (x.toNat : Int) (y1 : Int)))).drew = w5 at hrow5 hbw5 ⊢
  have hc15 := Hc1.out w5 hbw5
  obtain ⟨T', hT'⟩ : ∃ T', T' = T.set k (x ^^^ d) := ⟨_, rfl⟩
  have hTl' : T'.length = 25 := by rw [hT', List.length_set, hTl]
  have tu1 := Tu1.out
  have tu2 := Tu2.out
  rw [← hT'] at hrow5 tu1 tu2
  have hTs' : (bs T').size ≤ 1000000000000 := by rw [size_bs, hTl']; decide
  have hcv := Row.conv (P := Try.prog) (cap := cap) (n := 25) hrow5 hTl' Try.underlying42 Try.underlying5 Try.underlying9
  have HTs' := Lib.hid hTs'
  have hbeq : (decide ((a : Int) = b) == ((a : Int) == (b : Int))) = true := by rw [beq_iff_eq]; rfl
  clear hT' hTs' hrow5 Hset HbB Tu1 Tu2 hcx hfz hc04 hc14
  by_cases hy : y1 = 0
  · subst hy
    rw [decide_eq_true (Hd0.out.2 rfl)] at tu1
    have Tu1 := Lib.hid tu1
    clear tu1 tu2
    go_wp2_with fail
    refine (HS2.out _ _ HTs'.out).mono ?_
    rw [lb_bs]
    rintro e w6 ⟨v6, rfl, hr6, hb6⟩
    rw [Tu1.out]
    have hc16 := Hc1.out w6 (below_more hbw5 hb6 (Nat.le_refl _))
    by_cases hab : (a : Int) = b
    · have hd1 : decide ((a : Int) = b) = true := decide_eq_true hab
      have hd2 : ((a : Int) == (b : Int)) = true := by rw [beq_iff_eq]; exact hab
      rw [hd1]
      clear hab
      go_wp2_with fail
      refine (law_chunked _).mono ?_
      rintro e w7 ⟨rfl, hb7⟩
      go_wp2
      go_ret
      exact ⟨rfl, below_more hbw0 (below_more (below_more hbw5 hb6 (Nat.le_refl _)) hb7 (Nat.le_refl _)) (Nat.le_refl _)⟩
    · have hd1 : decide ((a : Int) = b) = false := decide_eq_false hab
      have hd2 : ((a : Int) == (b : Int)) = false := by rw [beq_eq_false_iff_ne]; exact hab
      rw [hd1]
      clear hab
      go_wp2_with fail
      refine (law_chunked _).mono ?_
      rintro e w7 ⟨rfl, hb7⟩
      go_wp2
      go_ret
      exact ⟨rfl, below_more hbw0 (below_more (below_more hbw5 hb6 (Nat.le_refl _)) hb7 (Nat.le_refl _)) (Nat.le_refl _)⟩
  · have hdn0 : d ≠ 0 := fun h => hy (Hd0.out.1 h)
    rw [decide_eq_false hdn0] at tu1
    have tu3 := tu2 hdn0
    have k1 : cAt T' (a : Int) = [] := by unfold cAt; rw [tu3]; rfl
    have k2 : cEnd T' (a : Int) = 0 := by unfold cEnd; rw [tu3]; rfl
    have Tu1 := Lib.hid tu1
    have K1 := Lib.hid k1
    have K2 := Lib.hid k2
    have hyI : ((y1 : Int) == 0) = false := by rw [beq_eq_false_iff_ne]; omega
    clear tu1 tu2 tu3 k1 k2
    go_wp2_with fail
    refine (HS2.out _ _ HTs'.out).mono ?_
    rw [lb_bs]
    rintro e w6 ⟨v6, rfl, hr6, hb6⟩
    rw [K1.out] at hr6
    obtain ⟨A6, c6, rfl, -, -, -, -⟩ := hr6
    rw [Tu1.out, K2.out]
    have hc16 := Hc1.out w6 (below_more hbw5 hb6 (Nat.le_refl _))
    by_cases hab : (a : Int) = b
    · have hd1 : decide ((a : Int) = b) = true := decide_eq_true hab
      have hd2 : ((a : Int) == (b : Int)) = true := by rw [beq_iff_eq]; exact hab
      rw [hd1]
      clear hab
      go_wp2_with fail
      refine (law_chunked _).mono ?_
      rintro e w7 ⟨rfl, hb7⟩
      go_wp2
      go_ret
      exact ⟨rfl, below_more hbw0 (below_more (below_more hbw5 hb6 (Nat.le_refl _)) hb7 (Nat.le_refl _)) (Nat.le_refl _)⟩
    · have hd1 : decide ((a : Int) = b) = false := decide_eq_false hab
      have hd2 : ((a : Int) == (b : Int)) = false := by rw [beq_eq_false_iff_ne]; exact hab
      rw [hd1]
      clear hab
      go_wp2_with fail
      refine (law_chunked _).mono ?_
      rintro e w7 ⟨rfl, hb7⟩
      go_wp2
      go_ret
      exact ⟨rfl, below_more hbw0 (below_more (below_more hbw5 hb6 (Nat.le_refl _)) hb7 (Nat.le_refl _)) (Nat.le_refl _)⟩
end Go.Proofs.Ytjcdkekmploelaa
