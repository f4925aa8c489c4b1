/-
  Rows.TablesSpoiltSaid: a table of which one byte is another one is none, nor is one that is cut off, or has a byte more.
-/
import Derived.Test.YtikodobglhjoiaaTablesTell
import Derived.Test.YtikodobglhjoiaaTablesLaw2
import Derived.Test.YtikodobglhjoiaaOpenTwo
namespace Go.Proofs.Ytikodobglhjoiaa
open Go.RowKit
set_option linter.unusedVariables false

theorem no_tab (s : ByteArray) (w : World) (hs : s.size ≤ 1000000000) (h : tabE (lb s) = 90) :
    Calls Try.prog 45 #[.string s] w fun e w' => ∃ v, e = .returned (.tuple #[v, .int .i64 90]) ∧ Below w.heap.size w w' :=
  (tables_Get s w hs).mono fun e w' ⟨v, he, _, hb⟩ => ⟨v, by rw [← h]; exact he, hb⟩
theorem or_one (c : Nat) (hc : c < 256) : ∃ d : UInt8, bits BinOp.or IntKind.u8 (c : Int) 1 = (d.toNat : Int) ∧ d ≠ 0 := by
  have h : ∀ c : Nat, c < 256 → (bits BinOp.or IntKind.u8 (c : Int) 1 = (((UInt8.ofNat (c ||| 1)).toNat : Nat) : Int) ∧ UInt8.ofNat (c ||| 1) ≠ 0) := by decide +kernel
  exact ⟨_, h c hc⟩

set_option maxHeartbeats 2000000 in
theorem TablesSpoilt_walk (v0 : Value) (l : List Ent) (v1 : Value) (at_ : Nat × Nat) (c : Int) (w : World) (hl : Ents w v0 l) (hv : TwoIs v1 at_) (hc : 0 ≤ c ∧ c ≤ 255) :
    Calls Try.prog 13 #[v0, v1, .int .u8 c] w fun e w' => e = .returned (.bool true) ∧ Below w.heap.size w w' := by
  obtain ⟨⟨A, cp, rfl, -, -, -, -⟩, -⟩ := id hl
  obtain ⟨y0, y1⟩ := at_
  obtain ⟨rfl, h0, h1⟩ := hv
  simp only [] at h0 h1
  obtain ⟨c, rfl⟩ := Int.eq_ofNat_of_zero_le hc.1
  have hc' : c < 256 := by have := hc.2; omega
  clear hc
  by_cases hL : 60 < l.length
  · have hL' : (60 : Int) < l.length := by omega
    go_enter Try.func13, Try.ntmps13
    go_wp2_with fail
    refine (law_laid _).mono ?_
    rintro e w1 ⟨rfl, hb1⟩
    go_wp2
    go_ret
    exact ⟨rfl, below_chain (below_lit _ _) hb1⟩
  · have hL' : ¬ (60 : Int) < l.length := by omega
    obtain ⟨m1, m2, m3⟩ := made_may l
    have hmade := fun w h => law_Made (.slice A l.length cp) l w h (by omega)
    generalize sortE (l.map modE) = M at m1 m2 m3 hmade
    have hE : errT M = 0 := by unfold errT; rw [m1]; rfl
    have hP := fun v w h => tables_Put v M w h (by omega)
    obtain ⟨t1, t2, t3, t4⟩ := tab_put m1 m2 (by omega)
    have s1 := spoilt_byte m1 m2 (by omega)
    have s2 := spoilt_cut m1 m2 (by omega)
    have s3 := spoilt_more m1 m2 (by omega) 120
    rw [hE] at hP
    generalize putT M = T at hP s1 s2 s3 t3
    obtain ⟨N, hN⟩ : ∃ N, N = 12 + 24 * M.length := ⟨_, rfl⟩
    rw [← hN] at t3
    have hN1 : N ≤ 10000 := by omega
    have hN0 : 12 ≤ N := by omega
    obtain ⟨k, hk⟩ : ∃ k, k = y0 % N := ⟨_, rfl⟩
    have hk1 : k < N := by rw [hk]; exact Nat.mod_lt _ (by omega)
    have hk2 : (y0 : Int) % (N : Int) = (k : Int) := by rw [hk]; rfl
    obtain ⟨j, hj⟩ : ∃ k, k = y1 % N := ⟨_, rfl⟩
    have hj1 : j < N := by rw [hj]; exact Nat.mod_lt _ (by omega)
    have hj2 : (y1 : Int) % (N : Int) = (j : Int) := by rw [hj]; rfl
    obtain ⟨x, hx⟩ : ∃ x, T[k]? = some x := ⟨_, List.getElem?_eq_getElem (by omega)⟩
    obtain ⟨d, hd1, hd0⟩ := or_one c hc'
    have hs1 := s1 k x d (by omega) hx hd0
    have hs2 := s2 j (by omega)
    have hTl := t3
    clear hE t1 t2 t4 s1 s2 m1 hk hj hL
    go_enter Try.func13, Try.ntmps13
    go_wp2_with fail
    obtain ⟨G, hG⟩ : ∃ G, G = w.heap.size := ⟨_, rfl⟩
    have hblk : (w.alloc (.cells #[.int .u16 (y0 : Int), .int .u16 (y1 : Int)] 72)).heap[G]? = some (.cells #[.int .u16 (y0 : Int), .int .u16 (y1 : Int)] 72 (0, 0)) := by rw [hG]; exact heap_alloc_new w _
    have hbw0 : Below w.heap.size w (w.alloc (.cells #[.int .u16 (y0 : Int), .int .u16 (y1 : Int)] 72)) := below_lit _ _
    have hGlt : G < (w.alloc (.cells #[.int .u16 (y0 : Int), .int .u16 (y1 : Int)] 72)).heap.size := (Array.getElem?_eq_some_iff.1 hblk).1
    rw [← hG]
    have hGw : w.heap.size ≤ G := by rw [hG]; exact Nat.le_refl _
    generalize (w.alloc (.cells #[.int .u16 (y0 : Int), .int .u16 (y1 : Int)] 72)) = w0 at hblk hbw0 hGlt ⊢
    have hc0 : ∀ w', Below w0.heap.size w0 w' → w'.cell? ⟨G, 0, none⟩ = some (.int .u16 (y0 : Int)) := fun w' h => (h.cell (p := ⟨G, 0, none⟩) hGlt).trans (by unfold World.cell?; rw [hblk]; rfl)
    have hc1 : ∀ w', Below w0.heap.size w0 w' → w'.cell? ⟨G, 1, none⟩ = some (.int .u16 (y1 : Int)) := fun w' h => (h.cell (p := ⟨G, 1, none⟩) hGlt).trans (by unfold World.cell?; rw [hblk]; rfl)
    clear hblk hG
    refine (hmade w0 (hl.next hbw0)).mono ?_
    rintro e w1 ⟨va, rfl, hown, hb1⟩
    have hE1 : Ents w1 va M := ⟨Reads.of_own hown, m2⟩
    clear hmade hown
    go_wp2_with fail
    refine (hP _ _ hE1).mono ?_
    rintro e w2 ⟨rfl, hb2⟩
    clear hP hE1
    have hb02 := below_chain hb1 hb2
    obtain ⟨w3, cap, hrun, hrow, hb3, hcap⟩ := conv_bytes (P := Try.prog) w2 9 45 5 (bs T) Try.underlying9 Try.underlying45 Try.underlying5
    have hTsz : (bs T).size = N := by rw [size_bs, hTl]
    rw [hTsz] at hrun hcap
    rw [lb_bs] at hrow
    obtain ⟨B, hB⟩ : ∃ B, B = w2.heap.size := ⟨_, rfl⟩
    have hGB : G < B := by rw [hB]; exact Nat.lt_of_lt_of_le hGlt hb02.size
    have h0B : w0.heap.size ≤ B := by rw [hB]; exact hb02.size
    rw [← hB] at hrow hrun
    have hb03 := below_chain hb02 hb3
    have hc03 := hc0 w3 hb03
    clear hB hb3 hb2 hb1
    have hcx : w3.cell? ⟨B, k, none⟩ = some (.int .u8 (x.toNat : Int)) := by
      rw [hrow.cell k (by rw [length_cellsB]; omega), cellsB_getElem]
      rw [List.getElem?_eq_getElem (by omega)] at hx
      rw [Option.some.inj hx]
    have hfz := hrow.frozen k (by rw [length_cellsB]; omega)
    have hxl := x.toNat_lt
    have hdl := d.toNat_lt
    have ed : bits BinOp.xor IntKind.u8 (x.toNat : Int) (d.toNat : Int) = ((x ^^^ d).toNat : Int) := by
      rw [u8_xor_nat _ _ hxl hdl, UInt8.toNat_xor]
    have hset := hrow.set k (.int .u8 (bits BinOp.xor IntKind.u8 (x.toNat : Int) (d.toNat : Int)))
    rw [ed, cellsB_set _ _ _ (by omega) (by have := (x ^^^ d).toNat_lt; omega)] at hset
    have e5 : UInt8.ofNat (((x ^^^ d).toNat : Int)).toNat = x ^^^ d := by simp
    rw [e5] at hset
    have hbB : Below w0.heap.size w0 (w3.setCell ⟨B, k, none⟩ (.int .u8 (bits BinOp.xor IntKind.u8 (x.toNat : Int) (d.toNat : Int)))) := hb03.setCell (p := ⟨B, k, none⟩) h0B _
    rw [← ed] at hset
    have hcv := Row.conv (P := Try.prog) (cap := cap) (n := N) hset (by rw [List.length_set]; exact hTl) Try.underlying45 Try.underlying5 Try.underlying9
    have g1 := fun w => no_tab (bs (T.set k (x ^^^ d))) w (by rw [size_bs, List.length_set]; omega) (by rw [lb_bs]; exact hs1)
    have g2 := fun w => no_tab (bs (T.take j)) w (by rw [size_bs, List.length_take]; omega) (by rw [lb_bs]; exact hs2)
    have g3 := fun w => no_tab (bs (T ++ [120])) w (by rw [size_bs, List.length_append, hTl]; simp; omega) (by rw [lb_bs]; exact s3)
    generalize T.set k (x ^^^ d) = T1 at hset g1 hcv
    have hx2 : (bs T).extract 0 j = bs (T.take j) := by rw [bs_extract, lb_bs, List.drop_zero, Nat.sub_zero]
    have hx3 : bs T ++ (⟨#[120]⟩ : ByteArray) = bs (T ++ [120]) := by rw [bs_append_r]; rfl
    have HbB := Lib.hid hbB
    have HTl := Lib.hid hTl
    have HNn := Lib.hid hN
    clear hTl t3 hN hx hset hbB ed e5 hs1 hs2 s3 hrow hxl hdl
    go_wp2_with fail
    refine (g1 _).mono ?_
    rintro e w4 ⟨v4, rfl, hb4⟩
    have hb04 := below_more HbB.out hb4 (Nat.le_refl _)
    have hc14 := hc1 w4 hb04
    clear hb4 HbB hcv hcx hfz hc03 hrun g1
    go_wp2_with fail
    try rw [hx2]
    refine (g2 _).mono ?_
    rintro e w5 ⟨v5, rfl, hb5⟩
    go_wp2_with fail
    try rw [hx3]
    refine (g3 _).mono ?_
    rintro e w6 ⟨v6, rfl, hb6⟩
    go_wp2_with fail
    refine (law_laid _).mono ?_
    rintro e w7 ⟨rfl, hb7⟩
    go_wp2
    go_ret
    exact ⟨rfl, below_more hbw0 (below_chain hb04 (below_chain hb5 (below_chain hb6 hb7))) (Nat.le_refl _)⟩
end Go.Proofs.Ytikodobglhjoiaa
