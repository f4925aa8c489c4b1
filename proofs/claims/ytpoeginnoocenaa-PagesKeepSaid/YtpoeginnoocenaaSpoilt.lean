/-
  PAGES: a file, spoilt: the law's Of.
-/
import Derived.Test.YtpoeginnoocenaaPage7
import Derived.Test.YtpoeginnoocenaaOpenB
namespace Go.Proofs.Ytpoeginnoocenaa
open Go.RowKit
set_option linter.unusedVariables false

def spoilN (a : List Nat) (b : List UInt8) : Nat → List UInt8 → List UInt8
  | 0, L => L
  | n + 1, L => (spoilN a b n L).set (a.getD n 0 % L.length) ((spoilN a b n L).getD (a.getD n 0 % L.length) 0 ^^^ b.getD n 0)
def roundsS (a : List Nat) (b : List UInt8) (n : Nat) : Nat := if n = 0 then 0 else min (min a.length b.length) 40
def cutS (cut : Nat) (n : Nat) (M : List UInt8) : List UInt8 := if cut % 2 = 1 then M.take (cut / 2 % (n + 1)) else M
def ofL (a : List Nat) (b : List UInt8) (cut : Nat) (t L : List UInt8) : List UInt8 :=
  cutS cut L.length (spoilN a b (roundsS a b L.length) L) ++ (if 100 < t.length then [] else t)
theorem length_spoilN (a : List Nat) (b : List UInt8) (n : Nat) (L : List UInt8) : (spoilN a b n L).length = L.length := by
  induction n with
  | zero => rfl
  | succ n ih => rw [spoilN, List.length_set, ih]
theorem length_ofL (a : List Nat) (b : List UInt8) (cut : Nat) (t L : List UInt8) : (ofL a b cut t L).length ≤ L.length + 100 := by
  unfold ofL cutS
  rw [List.length_append]
  have h1 := length_spoilN a b (roundsS a b L.length) L
  split <;> split <;> simp <;> omega
def u16C (l : List Nat) : List Value := l.map fun (n : Nat) => .int .u16 (n : Int)
def SpoiltV (w : World) (v : Value) (a : List Nat) (b : List UInt8) (cut : Nat) (t : ByteArray) : Prop :=
  ∃ va vb, v = .agg #[va, vb, .int .u16 (cut : Int), .string t] ∧ Reads w va 1 a.length (u16C a) ∧ Reads w vb 1 b.length (cellsB b) ∧ (∀ x ∈ a, x < 65536) ∧ cut < 65536 ∧ t.size ≤ maxLen
theorem SpoiltV.next {w w' : World} {v : Value} {a : List Nat} {b : List UInt8} {cut : Nat} {t : ByteArray} (h : SpoiltV w v a b cut t) (hb : Below w.heap.size w w') : SpoiltV w' v a b cut t := by
  obtain ⟨va, vb, h1, h2, h3, h4⟩ := h
  exact ⟨va, vb, h1, h2.next hb, h3.next hb, h4⟩
set_option maxRecDepth 100000 in
set_option maxHeartbeats 4000000 in
theorem law_Of (v : Value) (a : List Nat) (b : List UInt8) (cut : Nat) (t s : ByteArray) (w : World) (hv : SpoiltV w v a b cut t) (hs : s.size ≤ 1000000) :
    Calls Try.prog 27 #[v, .string s] w fun e w' => e = .returned (.string (bs (ofL a b cut (lb t) (lb s)))) ∧ Below w.heap.size w w' := by
  obtain ⟨va, vb, rfl, hva, hvb, ha, hcut, ht⟩ := hv
  obtain ⟨A, ca, rfl, hc1, hc2, -, -⟩ := id hva
  obtain ⟨B, cb, rfl, hc3, hc4, -, -⟩ := id hvb
  have hr0 := Row.new w #[.slice A a.length ca, .slice B b.length cb, .int .u16 (cut : Int), .string t] 50
  have hb0 := (Below.refl w.heap.size w).alloc (Nat.le_refl _) (.cells #[.slice A a.length ca, .slice B b.length cb, .int .u16 (cut : Int), .string t] 50)
  obtain ⟨R, hR⟩ : ∃ R, R = w.heap.size := ⟨_, rfl⟩
  obtain ⟨w2, cap, hrun, hrow, hb2, hcap⟩ := conv_bytes (P := Try.prog) (w.alloc (.cells #[.slice A a.length ca, .slice B b.length cb, .int .u16 (cut : Int), .string t] 50)) 9 34 5 s Try.underlying9 Try.underlying34 Try.underlying5
  obtain ⟨G, hG⟩ : ∃ G, G = (w.alloc (.cells #[.slice A a.length ca, .slice B b.length cb, .int .u16 (cut : Int), .string t] 50)).heap.size := ⟨_, rfl⟩
  have hRG : R < G := by rw [hR, hG]; exact hr0.lt
  have hr2 := hr0.next hb2
  have hbw2 := below_chain hb0 hb2
  have hRw : w.heap.size ≤ R := by rw [hR]; exact Nat.le_refl _
  have hWG : w.heap.size ≤ G := by omega
  rw [← hG] at hrow hrun
  rw [← hR] at hr2
  clear hc2 hc4 hr0 hb0 hb2 hG
  go_enter Try.func27, Try.ntmps27
  go_wp2_with fail
  rw [← hR]
  have hva2 := Lib.hid hva
  have hvb2 := Lib.hid hvb
  have Ha := Lib.hid ha
  have Ht := Lib.hid ht
  have Hcap := Lib.hid hcap
  clear hva hvb ha ht hrun hcap hR
  go_loopw [6] (fun i wr => ∃ k : Nat, k ≤ roundsS a b s.size ∧ i = .int .i64 k ∧ Row wr G 5 (cellsB (spoilN a b k (lb s))) ∧ Row wr R 50 [.slice A a.length ca, .slice B b.length cb, .int .u16 (cut : Int), .string t] ∧ Below w.heap.size w wr ) (fun i _ => roundsS a b s.size - (intOf i).toNat)
  case atStart => exact ⟨0, by omega, rfl, hrow, hr2, hbw2⟩
  case round =>
    obtain ⟨k, hk, rfl, hrw, hrr, hbr⟩ := hrel
    clear hrow hr2 hbw2
    have HR := Lib.hid hrr
    have y0 := hrr.cell 0 (by simp)
    have y1 := hrr.cell 1 (by simp)
    have y2 := hrr.cell 2 (by simp)
    have y3 := hrr.cell 3 (by simp)
    simp only [List.getElem_cons_zero, List.getElem_cons_succ] at y0 y1 y2 y3
    have hlenS : (spoilN a b k (lb s)).length = s.size := by rw [length_spoilN, length_lb]
    clear hrr
    by_cases hlt : k < roundsS a b s.size
    · have hn : k < a.length ∧ k < b.length ∧ k < 40 ∧ 0 < s.size := by
        unfold roundsS at hlt
        split at hlt
        · omega
        · omega
      obtain ⟨n1, n2, n3, n4⟩ := hn
      have i1 : (k : Int) < a.length := by omega
      have i2 : (k : Int) < b.length := by omega
      have i3 : (k : Int) < 40 := by omega
      have i4 : (0 : Int) < s.size := by omega
      obtain ⟨bA, oA, rfl, -, -, -, hA⟩ := hva2.out.at_ (by omega)
      obtain ⟨bB, oB, rfl, -, -, -, hB⟩ := hvb2.out.at_ (by omega)
      have cA : wr.cell? ⟨bA, oA + k, none⟩ = some (.int .u16 (a[k] : Nat)) := (hA wr hbr k (by simp [u16C]; omega)).trans (by simp [u16C])
      have cB : wr.cell? ⟨bB, oB + k, none⟩ = some (.int .u8 (b[k].toNat : Nat)) := (hB wr hbr k (by rw [length_cellsB]; omega)).trans (by rw [cellsB_getElem])
      have hak := Ha.out a[k] (List.getElem_mem n1)
      have eA : a.getD k 0 = a[k] := by rw [List.getD_eq_getElem?_getD, List.getElem?_eq_getElem n1]; rfl
      have eB : b.getD k 0 = b[k] := by rw [List.getD_eq_getElem?_getD, List.getElem?_eq_getElem n2]; rfl
      generalize a[k] = x at cA hak eA
      generalize b[k] = y at cB eB
      obtain ⟨j, hj⟩ : ∃ j, j = x % s.size := ⟨_, rfl⟩
      have hj1 : j < s.size := by rw [hj]; exact Nat.mod_lt _ n4
      have hj2 : (x : Int) % (s.size : Int) = (j : Int) := by rw [hj]; rfl
      have hx0 : (0 : Int) ≤ x := by omega
      have hj3 : (j : Int) < s.size := by omega
      have cG : wr.cell? ⟨G, j, none⟩ = some (.int .u8 ((spoilN a b k (lb s)).getD j 0).toNat) := by
        rw [hrw.cell j (by rw [length_cellsB]; omega), cellsB_getElem, List.getD_eq_getElem?_getD, List.getElem?_eq_getElem (by omega)]; rfl
      have hfz := hrw.frozen j (by rw [length_cellsB]; omega)
      have hset : Row (wr.setCell ⟨G, j, none⟩ (.int .u8 (bits BinOp.xor IntKind.u8 (((spoilN a b k (lb s)).getD j 0).toNat : Int) (y.toNat : Int)))) G 5 (cellsB (spoilN a b (k + 1) (lb s))) := by
        have h := hrw.set j (.int .u8 (bits BinOp.xor IntKind.u8 (((spoilN a b k (lb s)).getD j 0).toNat : Int) (y.toNat : Int)))
        have e9 : bits BinOp.xor IntKind.u8 (((spoilN a b k (lb s)).getD j 0).toNat : Int) (y.toNat : Int) = ((((spoilN a b k (lb s)).getD j 0) ^^^ y).toNat : Int) := by
          rw [u8_xor_nat _ _ (UInt8.toNat_lt _) y.toNat_lt, UInt8.toNat_xor]
        have e5 : ∀ z : UInt8, UInt8.ofNat ((z.toNat : Int)).toNat = z := fun z => by simp
        rw [e9, cellsB_set _ _ _ (by omega) (by have := (((spoilN a b k (lb s)).getD j 0) ^^^ y).toNat_lt; omega), e5] at h
        rw [spoilN, eA, eB, length_lb, ← hj, e9]
        exact h
      have hsr := HR.out.far (p := ⟨G, j, none⟩) (by show R ≠ G; omega) (.int .u8 (bits BinOp.xor IntKind.u8 (((spoilN a b k (lb s)).getD j 0).toNat : Int) (y.toNat : Int)))
      have hsb := hbr.setCell (p := ⟨G, j, none⟩) hWG (.int .u8 (bits BinOp.xor IntKind.u8 (((spoilN a b k (lb s)).getD j 0).toNat : Int) (y.toNat : Int)))
      generalize (spoilN a b k (lb s)).getD j 0 = z at cG hset hsr hsb
      have Hset := Lib.hid hset.drew
      have Hsr := Lib.hid hsr.drew
      have Hsb := Lib.hid hsb.drew
      have Hlt := Lib.hid hlt
      clear hset hsr hsb hA hB hrw hlenS y2 y3 hbr hj eA eB hk hlt hcut
      go_wp2_with fail
      go_region
      go_wp2
      go_roundw
      case rel => exact ⟨k + 1, by have := Hlt.out; omega, by go_num, Hset.out, Hsr.out, Hsb.out⟩
      case measure => have := Hlt.out; simp [intOf]; omega
    · obtain rfl : k = roundsS a b s.size := by omega
      have hout : ¬ (roundsS a b s.size < a.length ∧ roundsS a b s.size < b.length ∧ roundsS a b s.size < 40 ∧ 0 < s.size) := by
        unfold roundsS
        split <;> omega
      generalize hN : roundsS a b s.size = N at *
      obtain ⟨M, hM⟩ : ∃ M, M = spoilN a b N (lb s) := ⟨_, rfl⟩
      rw [← hM] at hrw hlenS
      have hcvF := Row.conv (P := Try.prog) (cap := cap) (n := s.size) hrw hlenS Try.underlying34 Try.underlying5 Try.underlying9
      obtain ⟨q, hq⟩ : ∃ q, q = cut / 2 % (s.size + 1) := ⟨_, rfl⟩
      have hq1 : q ≤ s.size := by rw [hq]; exact Nat.le_of_lt_succ (Nat.mod_lt _ (by omega))
      have hq2 : (cut : Int) / 2 % ((s.size : Int) + 1) = (q : Int) := by rw [hq]; rfl
      have hq3 : (q : Int) ≤ s.size := by omega
      have hqc : q ≤ cap := by have := Hcap.out; omega
      have hM9 : M.length ≤ 1000000 := by omega
      have HM9 := Lib.hid hM9
      clear hM9
      have hrwC : Row wr G 5 (cellsB (M.take q)) := Row.less (zs := cellsB (M.drop q)) (by unfold cellsB; rw [← List.map_append, List.take_append_drop]; exact hrw)
      have hcvC := Row.conv (P := Try.prog) (cap := cap) (n := q) hrwC (by rw [List.length_take]; omega) Try.underlying34 Try.underlying5 Try.underlying9
      have hof : ofL a b cut (lb t) (lb s) = (if cut % 2 = 1 then M.take q else M) ++ (if 100 < t.size then [] else lb t) := by
        unfold ofL cutS
        rw [length_lb, length_lb, hN, ← hM, ← hq]
      have hcond : (¬ (N : Int) < a.length) ∨ ((N : Int) < a.length ∧ ¬ (N : Int) < b.length) ∨ ((N : Int) < a.length ∧ (N : Int) < b.length ∧ ¬ (N : Int) < 40) ∨ ((N : Int) < a.length ∧ (N : Int) < b.length ∧ (N : Int) < 40 ∧ ¬ (0 : Int) < s.size) := by omega
      have Hbr := Lib.hid hbr
      clear hM hq hrw hrwC hlenS hN hbr hva2 hvb2 Ha Ht hlt HR hout
      have c0 : (0 : Int) ≤ cut := by omega
      have c1 : (0 : Int) ≤ (s.size : Int) := by omega
      rcases (show cut % 2 = 1 ∨ cut % 2 = 0 from by omega) with hc | hc
      · have e1 : ((cut : Int) % 2 == 1) = true := by rw [beq_iff_eq]; omega
        rw [if_pos hc] at hof
        clear hcvF hc
        by_cases ht1 : 100 < t.size
        · have e2 : (100 : Int) < t.size := by omega
          rw [if_pos ht1, List.append_nil] at hof
          have Hof := Lib.hid hof
          clear hof ht1
          rcases hcond with h1 | ⟨h1, h2⟩ | ⟨h1, h2, h3⟩ | ⟨h1, h2, h3, h4⟩
          all_goals
            go_wp2
            go_ret
            exact ⟨by rw [Hof.out]; rfl, Hbr.out⟩
        · have e2 : ¬ (100 : Int) < t.size := by omega
          rw [if_neg ht1] at hof
          have Hof := Lib.hid hof
          clear hof ht1
          rcases hcond with h1 | ⟨h1, h2⟩ | ⟨h1, h2, h3⟩ | ⟨h1, h2, h3, h4⟩
          all_goals
            go_wp2
            go_ret
            exact ⟨by rw [Hof.out, ← bs_append_r]; rfl, Hbr.out⟩
      · have e1 : ((cut : Int) % 2 == 1) = false := by rw [beq_eq_false_iff_ne]; omega
        rw [if_neg (by omega)] at hof
        clear hcvC hc
        by_cases ht1 : 100 < t.size
        · have e2 : (100 : Int) < t.size := by omega
          rw [if_pos ht1, List.append_nil] at hof
          have Hof := Lib.hid hof
          clear hof ht1
          rcases hcond with h1 | ⟨h1, h2⟩ | ⟨h1, h2, h3⟩ | ⟨h1, h2, h3, h4⟩
          all_goals
            go_wp2
            go_ret
            exact ⟨by rw [Hof.out]; rfl, Hbr.out⟩
        · have e2 : ¬ (100 : Int) < t.size := by omega
          rw [if_neg ht1] at hof
          have Hof := Lib.hid hof
          clear hof ht1
          have hM9 := HM9.out
          have hM8 : M.length + t.size ≤ 9223372036854775807 := by omega
          clear hM9
          rcases hcond with h1 | ⟨h1, h2⟩ | ⟨h1, h2, h3⟩ | ⟨h1, h2, h3, h4⟩
          all_goals
            go_wp2
            go_ret
            exact ⟨by rw [Hof.out, ← bs_append_r]; rfl, Hbr.out⟩
end Go.Proofs.Ytpoeginnoocenaa
