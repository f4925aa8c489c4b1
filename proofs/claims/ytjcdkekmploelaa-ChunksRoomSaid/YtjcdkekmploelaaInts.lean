/-
  annalistlaw06.Ints: are two lists of numbers the same?
-/
import Derived.Test.YtjcdkekmploelaaNums
import Derived.Test.YtjcdkekmploelaaMem
namespace Go.Proofs.Ytjcdkekmploelaa
open Go.RowKit
set_option linter.unusedVariables false

set_option maxHeartbeats 1000000 in
theorem law_Ints (va vb : Value) (xs ys : List Int) (w : World) (ha : Reads w va 1 xs.length (intsC xs)) (hb : Reads w vb 1 ys.length (intsC ys)) :
    Calls Try.prog 24 #[va, vb] w fun e w' => e = .returned (.bool (decide (xs = ys))) ∧ Below w.heap.size w w' := by
  obtain ⟨A, c, rfl, hc1, hc2, -, hac⟩ := ha
  obtain ⟨B, d, rfl, hd1, hd2, -, hbc⟩ := hb
  unfold maxLen at hc2 hd2
  by_cases hlen : xs.length = ys.length
  · by_cases h0 : xs.length = 0
    · have hx : xs = [] := List.eq_nil_of_length_eq_zero h0
      subst hx
      have hy : ys = [] := List.eq_nil_of_length_eq_zero (by omega)
      subst hy
      clear hac hbc
      go_enter Try.func24, Try.ntmps24
      go_wp2
      refine wp_loop_rounds 1 ?_
      rw [rounds_succ]
      go_wp2
      go_ret
      exact ⟨rfl, Below.refl _ _⟩
    · obtain ⟨b1, o1, rfl, hb1, hcell1⟩ := hac (by omega)
      obtain ⟨b2, o2, rfl, hb2, hcell2⟩ := hbc (by omega)
      clear hac hbc
      rw [← hlen]
      go_enter Try.func24, Try.ntmps24
      go_wp2
      go_loopw [5] (fun i wr => ∃ k : Nat, k ≤ xs.length ∧ i = .int .i64 k ∧ xs.take k = ys.take k ∧ Below w.heap.size w wr) (fun i _ => xs.length - (intOf i).toNat)
      case atStart => exact ⟨0, Nat.zero_le _, rfl, by simp, Below.refl _ _⟩
      case round =>
        obtain ⟨k, hk, rfl, hpre, hbr⟩ := hrel
        have Hpre := Lib.hid hpre
        clear hpre
        by_cases hlt : k < xs.length
        · have hx : wr.cell? ⟨b1, o1 + k, none⟩ = some (.int .i64 xs[k]) := (hbr.cell (p := ⟨b1, o1 + k, none⟩) hb1).trans ((hcell1 k (by simp; omega)).trans (by simp [intsC]))
          have hy : wr.cell? ⟨b2, o2 + k, none⟩ = some (.int .i64 ys[k]) := (hbr.cell (p := ⟨b2, o2 + k, none⟩) hb2).trans ((hcell2 k (by simp; omega)).trans (by simp [intsC]))
          obtain ⟨x, hxx⟩ : ∃ x, x = xs[k] := ⟨_, rfl⟩
          obtain ⟨y, hyy⟩ : ∃ y, y = ys[k] := ⟨_, rfl⟩
          rw [← hxx] at hx
          rw [← hyy] at hy
          have i1 : (k : Int) < xs.length := by omega
          have Hxx := Lib.hid hxx
          have Hyy := Lib.hid hyy
          have Hc1 := Lib.hid hcell1
          have Hc2 := Lib.hid hcell2
          clear hxx hyy hcell1 hcell2
          by_cases he : x = y
          · have he' : (x != y) = false := by rw [he]; simp
            have He := Lib.hid he
            clear he
            go_wp2_with fail
            go_quiet (fail)
            go_wp2
            go_roundw
            case rel =>
              refine ⟨k + 1, by omega, by go_num, ?_, below_drewN hbr _⟩
              rw [List.take_succ_eq_append_getElem hlt, List.take_succ_eq_append_getElem (by omega), Hpre.out, ← Hxx.out, ← Hyy.out, He.out]
            case measure => simp [intOf]; omega
          · have he' : (x != y) = true := by rw [bne_iff_ne]; exact he
            have hno : decide (xs = ys) = false := by
              rw [decide_eq_false_iff_not]
              intro h
              apply he
              rw [Hxx.out, Hyy.out]
              simp [h]
            have Hno := Lib.hid hno
            clear hno he
            go_wp2_with fail
            go_quiet (fail)
            go_wp2
            go_ret
            exact ⟨ret_bool Hno.out.symm, below_drewN hbr _⟩
        · have hyes : decide (xs = ys) = true := by
            rw [decide_eq_true_iff]
            have := Hpre.out
            rw [List.take_of_length_le (by omega), List.take_of_length_le (by omega)] at this
            exact this
          have Hyes := Lib.hid hyes
          clear hyes
          go_wp2
          go_ret
          exact ⟨ret_bool Hyes.out.symm, hbr⟩
  · have hno : decide (xs = ys) = false := by
      rw [decide_eq_false_iff_not]; intro h; exact hlen (by rw [h])
    have Hno := Lib.hid hno
    have hne : ((xs.length : Int) != (ys.length : Int)) = true := by rw [bne_iff_ne]; omega
    clear hno hac hbc
    go_enter Try.func24, Try.ntmps24
    go_wp2
    go_ret
    exact ⟨ret_bool Hno.out.symm, Below.refl _ _⟩
end Go.Proofs.Ytjcdkekmploelaa
