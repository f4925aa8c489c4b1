/-
  Rows.RecordsEndsSaid: from the end of a row its records are found, one by one, as from its front.
-/
import Derived.Test.YtjcdkekmploelaaOpenStrings
namespace Go.Proofs.Ytjcdkekmploelaa
open Go.RowKit
set_option linter.unusedVariables false

theorem natsC_get (l : List Nat) (j : Nat) (h : j < (natsC l).length) : (natsC l)[j] = .int .i64 ((l[j]'(by simpa using h) : Nat) : Int) := by simp [natsC, intsC]
theorem Reads.at_ {w : World} {A : Option Addr} {n c : Nat} {xs : List Value} (h : Reads w (.slice A n c) 1 n xs) (h0 : 0 < n) : ∃ b off, A = some ⟨b, off, none⟩ ∧ n ≤ c ∧ c ≤ maxLen ∧ xs.length = n ∧ ∀ (w' : World), Below w.heap.size w w' → ∀ j (h : j < xs.length), w'.cell? ⟨b, off + j, none⟩ = some xs[j] := by
  obtain ⟨A', c', hv, h1, h2, hl, hc⟩ := h
  obtain ⟨rfl, -, rfl⟩ := Value.slice.inj hv
  obtain ⟨b, off, rfl, hlt, hcell⟩ := hc h0
  exact ⟨b, off, rfl, h1, h2, by omega, fun w' hb j hj => (hb.cell (p := ⟨b, off + j, none⟩) hlt).trans (hcell j hj)⟩

set_option maxHeartbeats 1000000 in
theorem RecordsEnds_walk (a : ByteArray) (v : Value) (ss : List ByteArray) (w : World) (ha : a.size ≤ maxLen) (hv : Strs w v ss) :
    Calls Try.prog 9 #[.string a, v] w fun e w' => e = .returned (.bool true) ∧ Below w.heap.size w w' := by
  have hR := law_Row a v ss
  obtain ⟨hrv, hsz⟩ := id hv
  obtain ⟨A, c, rfl, hc1, hc2, -, -⟩ := id hrv
  unfold maxLen at hc2
  go_enter Try.func9, Try.ntmps9
  go_wp2_with fail
  refine (hR w ha hv).mono ?_
  rintro e w1 ⟨hb1, rfl | ⟨hok, v1, rfl, hr1⟩⟩
  · go_wp2_with fail
    refine (law_recorded _).mono ?_
    rintro e w2 ⟨rfl, hb2⟩
    go_wp2
    go_ret
    refine ⟨rfl, ?_⟩
    repeat (first | assumption | exact Below.refl _ _ | (refine below_chain (by assumption) ?_))
  · obtain ⟨ho1, ho2, ho3⟩ := hok
    obtain ⟨ps, hps⟩ : ∃ ps, ps = ss.map lb := ⟨_, rfl⟩
    have hpl : ps.length = ss.length := by rw [hps]; simp
    have hp9 : ∀ (i : Nat) (h : i < ps.length), ps[i].length ≤ 2000 := fun i h => by
      have := ho3 ss[i] (List.getElem_mem (by omega))
      simp [hps, length_lb]; omega
    have hSl : (rowL (lb a) ps).length ≤ 30000 := by
      have := rowL_size a ss ss.length (by rw [List.take_length]; exact ho3) (Nat.le_refl _)
      rw [List.take_length, ← hps] at this; omega
    obtain ⟨A1, c1, rfl, h11, h12, -, -⟩ := id hr1
    obtain ⟨b1, o1, rfl, -, -, -, hcell1⟩ := hr1.at_ (by omega)
    unfold maxLen at h12
    rw [← hps] at hcell1 ⊢
    have Hps := Lib.hid hps
    have Hp9 := Lib.hid hp9
    have Hcell1 := Lib.hid hcell1
    have Ho3 := Lib.hid ho3
    clear hps hp9 hcell1 hr1 ho3
    go_wp2_with fail
    go_loopw [8, 9] (fun en i wr => ∃ j : Nat, j ≤ ss.length ∧ i = .int .i64 ((j : Int) - 1) ∧ en = .int .i64 (posL (lb a) ps j : Nat) ∧ Below w1.heap.size w1 wr) (fun _ i _ => (intOf i + 1).toNat)
    case atStart => exact ⟨ss.length, Nat.le_refl _, rfl, by rw [← hpl, posL_end], Below.refl _ _⟩
    case round =>
      obtain ⟨j, hj, rfl, rfl, hbr⟩ := hrel
      by_cases h0 : j = 0
      · subst h0
        go_wp2_with fail
        refine (law_recorded _).mono ?_
        rintro e w2 ⟨rfl, hb2⟩
        go_wp2
        go_ret
        refine ⟨rfl, below_chain hb1 (below_more hbr hb2 (Nat.le_refl _))⟩
      · obtain ⟨m, rfl⟩ : ∃ m, j = m + 1 := ⟨j - 1, by omega⟩
        have em : ((m + 1 : Nat) : Int) - 1 = (m : Int) := by omega
        rw [em]; clear em h0
        have hm : m < ps.length := by omega
        have hs1 := posL_succ (lb a) ps m hm
        have hsplit := rowL_split (lb a) ps m hm
        have g1 := bOk_recL (rowL (lb a) (ps.take m)) ps[m] (((ps.drop (m + 1)).map recL).flatten) (Hp9.out m hm)
        have g2 := bA_recL (rowL (lb a) (ps.take m)) ps[m] (((ps.drop (m + 1)).map recL).flatten) (Hp9.out m hm)
        have g3 := bP_recL (rowL (lb a) (ps.take m)) ps[m] (((ps.drop (m + 1)).map recL).flatten) (Hp9.out m hm)
        rw [← hsplit] at g1 g2 g3
        rw [show (rowL (lb a) (ps.take m)).length + ps[m].length + 12 = posL (lb a) ps (m + 1) from hs1.symm] at g1 g2 g3
        rw [show (rowL (lb a) (ps.take m)).length = posL (lb a) ps m from rfl] at g3
        have hpm : ps[m] = lb ss[m] := by simp [Hps.out]
        rw [hpm] at g2
        obtain ⟨b, off, rfl, -, -, -, hcell⟩ := hrv.at_ (by omega)
        obtain ⟨x, hx⟩ : ∃ x, x = ss[m] := ⟨_, rfl⟩
        have hc0 : ∀ w', Below w.heap.size w w' → w'.cell? ⟨b, off + m, none⟩ = some (.string x) := fun w' h => (hcell w' h m (by simp; omega)).trans (by simp [strsC, hx])
        have hc1 : ∀ w', Below w1.heap.size w1 w' → w'.cell? ⟨b1, o1 + m, none⟩ = some (.int .i64 (posL (lb a) ps m : Nat)) := fun w' h => (Hcell1.out w' h m (by simp; omega)).trans (by rw [natsC_get, rowAt_get])
        have hp1 : posL (lb a) ps (m + 1) ≤ 30000 := Nat.le_trans (posL_le _ _ _) hSl
        have hp0 : posL (lb a) ps m ≤ 30000 := Nat.le_trans (posL_le _ _ _) hSl
        have eSz : (bs (rowL (lb a) ps)).size ≤ 9223372036854775000 := by rw [size_bs]; omega
        rw [← hx] at g2
        obtain ⟨S, hS⟩ : ∃ S, S = rowL (lb a) ps := ⟨_, rfl⟩
        rw [← hS] at g1 g2 g3 eSz ⊢
        generalize posL (lb a) ps (m + 1) = P1 at *
        obtain ⟨P0, hP0⟩ : ∃ P0, P0 = posL (lb a) ps m := ⟨_, rfl⟩
        rw [← hP0] at g3 hc1 hp0
        have HP0 := Lib.hid hP0
        clear hP0
        have i1 : (m : Int) < ss.length := by omega
        have i2 : (m : Int) < (ss.length : Int) + 1 := by omega
        have G1 := Lib.hid g1
        have G2 := Lib.hid g2
        have G3 := Lib.hid g3
        have ESz := Lib.hid eSz
        have Hx := Lib.hid hx
        clear hcell hx g1 g2 g3 hs1 hsplit hpm hS eSz Hcell1
        go_wp2_with fail
        refine (records_Back _ _ _ ESz.out (by omega)).mono ?_
        rintro e w2 ⟨rfl, hb2⟩
        rw [lb_bs, G1.out, G2.out, G3.out, bs_lb]
        have hbw2 := below_more hbr hb2 (Nat.le_refl _)
        have d0 := hc0 w2 (below_chain hb1 hbw2)
        have d1 := hc1 w2 hbw2
        clear hc0 hc1
        go_wp2
        go_roundw
        case rel => exact ⟨m, by omega, rfl, by rw [HP0.out], hbw2⟩
        case measure => simp [intOf]
end Go.Proofs.Ytjcdkekmploelaa
