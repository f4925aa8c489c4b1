/-
  ENTRIES: where the first one is that is not ahead. The program's Search (of a list in order), and the reference's.
-/
import Derived.Test.YtikodobglhjoiaaEntSorted
namespace Go.Proofs.Ytikodobglhjoiaa
open Go.RowKit
set_option linter.unusedVariables false

set_option maxHeartbeats 400000 in
theorem entries_Search (v : Value) (l : List Ent) (h : Nat) (ver : Int) (w : World) (hl : Ents w v l) (hs : sortedE l = true) (hh : h < 18446744073709551616) (hv : -9223372036854775808 ≤ ver ∧ ver ≤ 9223372036854775807) :
    Calls Try.prog 19 #[v, .int .u64 h, .int .i64 ver] w fun e w' => e = .returned (.int .i64 (searchE l h ver)) ∧ Below w.heap.size w w' := by
  obtain ⟨⟨A, c, rfl, -, -, -, -⟩, -⟩ := id hl
  obtain ⟨-, h1, h2, -⟩ := hl.cells
  unfold maxLen at h2
  have hok := fun (i : Nat) (e : Ent) (hi : l[i]? = some e) => hl.ok hi
  have hcut := searchE_cut hs h ver
  have hle := searchE_le l h ver
  generalize searchE l h ver = s at *
  have hcell := fun h0 => hl.later h0
  obtain ⟨n, hn⟩ : ∃ n, n = l.length := ⟨_, rfl⟩
  rw [← hn] at h1 hle ⊢
  clear hl
  have Hn := Lib.hid hn
  have Hok := Lib.hid hok
  have Hcell := Lib.hid hcell
  have Hcut := Lib.hid hcut
  clear hok hcell hcut hn
  go_enter Try.func19, Try.ntmps19
  go_wp2_with fail
  go_step3
  go_wp2_with fail
  go_step3
  go_wp2_with fail
  go_loopw [7, 8] (fun lo hi wr => ∃ a b : Nat, a ≤ s ∧ s ≤ b ∧ b ≤ n ∧ lo = .int .i64 (a : Int) ∧ hi = .int .i64 (b : Int) ∧ Below w.heap.size w wr) (fun lo hi _ => (intOf hi - intOf lo).toNat)
  case atStart => exact ⟨0, n, by omega, by omega, by omega, rfl, rfl, Below.refl _ _⟩
  case round =>
    obtain ⟨a, b, ha, hb, hbn, rfl, rfl, hbr⟩ := hrel
    by_cases hlt : a < b
    · obtain ⟨d, hd⟩ : ∃ d, d = (b - a) / 2 := ⟨_, rfl⟩
      have hmb : a + d < b := by omega
      have q1 : Int.tdiv ((b : Int) - (a : Int)) 2 = (d : Int) := by rw [Int.tdiv_eq_ediv_of_nonneg (by omega)]; omega
      have Hd := Lib.hid hd
      clear hd
      obtain ⟨e, he⟩ : ∃ e, l[a + d]? = some e := ⟨_, List.getElem?_eq_getElem (by have := Hn.out; omega)⟩
      have oe := Hok.out (a + d) e he
      obtain ⟨blk, off, rfl, hlt0, hcell⟩ := Hcell.out (by have := Hn.out; omega)
      obtain ⟨c0, c1, c2⟩ := hcell (a + d) e he wr hbr
      have i1 : ¬ (b : Int) ≤ (a : Int) := by omega
      have i2 : (a : Int) + (d : Int) < (n : Int) := by omega
      have e1 := List.getElem?_eq_some_iff.1 he
      have hiff := Hcut.out (a + d) e1.1
      rw [e1.2] at hiff
      have He := Lib.hid he
      clear he hcell e1
      go_wp2_with fail
      refine (entries_ahead e h ver _ oe hh hv).mono ?_
      rintro e' w1 ⟨rfl, hb1⟩
      rcases hah : aheadE e h ver with _ | _
      · have : ¬ a + d < s := fun hx => by rw [hiff.2 hx] at hah; cases hah
        go_wp2
        go_roundw
        case rel => exact ⟨a, a + d, by omega, by omega, by omega, rfl, by go_num, below_more hbr hb1 (Nat.le_refl _)⟩
        case measure => simp [intOf]; omega
      · have := hiff.1 hah
        go_wp2
        go_roundw
        case rel => exact ⟨a + d + 1, b, by omega, by omega, by omega, by go_num, rfl, below_more hbr hb1 (Nat.le_refl _)⟩
        case measure => simp [intOf]; omega
    · obtain rfl : a = b := by omega
      obtain rfl : a = s := by omega
      go_wp2
      try rw [Exit.noGoto_ret]
      go_ret
      exact ⟨rfl, hbr⟩

end Go.Proofs.Ytikodobglhjoiaa
