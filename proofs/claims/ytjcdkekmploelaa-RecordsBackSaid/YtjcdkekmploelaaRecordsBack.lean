/-
  Rows.RecordsBackSaid: a payload's record has it, and twelve bytes more; it is found from both ends, whatever stands around it.
-/
import Derived.Test.YtjcdkekmploelaaStand
import Derived.Test.YtjcdkekmploelaaRecRow
namespace Go.Proofs.Ytjcdkekmploelaa
open Go.RowKit
set_option linter.unusedVariables false

set_option maxHeartbeats 1000000 in
theorem RecordsBack_walk (p a b : ByteArray) (w : World) (hp : p.size ≤ maxLen) (ha : a.size ≤ maxLen) (hb : b.size ≤ maxLen) :
    Calls Try.prog 6 #[.string p, .string a, .string b] w fun e w' => e = .returned (.bool true) ∧ Below w.heap.size w w' := by
  unfold maxLen at hp ha hb
  by_cases h : p.size ≤ 2500 ∧ a.size ≤ 300 ∧ b.size ≤ 300
  · obtain ⟨h1, h2, h3⟩ := h
    have h1' : ¬ (2500 : Int) < p.size := by omega
    have h2' : ¬ (300 : Int) < a.size := by omega
    have h3' : ¬ (300 : Int) < b.size := by omega
    by_cases h4 : p.size ≤ 2000
    · have h4' : ¬ (2000 : Int) < p.size := by omega
      have e1 : putR (lb p) = recL (lb p) := by unfold putR; rw [if_neg (by rw [length_lb]; omega)]
      have e2 : putE (lb p) = 0 := by unfold putE; rw [if_neg (by rw [length_lb]; omega)]
      have hrl : (recL (lb p)).length = p.size + 12 := by rw [length_recL, length_lb]
      have g1 := gOk_recL (lb a) (lb p) (lb b) (by rw [length_lb]; omega)
      have g2 := gA_recL (lb a) (lb p) (lb b) (by rw [length_lb]; omega)
      have g3 := gN_recL (lb a) (lb p) (lb b) (by rw [length_lb]; omega)
      have g4 := bOk_recL (lb a) (lb p) (lb b) (by rw [length_lb]; omega)
      have g5 := bA_recL (lb a) (lb p) (lb b) (by rw [length_lb]; omega)
      have g6 := bP_recL (lb a) (lb p) (lb b) (by rw [length_lb]; omega)
      rw [length_lb] at g1 g2 g3 g4 g5 g6
      rw [length_lb] at g3 g4 g5 g6
      obtain ⟨S, hS⟩ : ∃ S : ByteArray, S = a ++ bs (recL (lb p)) ++ b := ⟨_, rfl⟩
      have hlS : lb S = lb a ++ (recL (lb p) ++ lb b) := by
        rw [hS]
        have : a ++ bs (recL (lb p)) ++ b = bs (lb a ++ (recL (lb p) ++ lb b)) := by
          rw [← List.append_assoc, ← bs_append, ← bs_append, bs_lb, bs_lb]
        rw [this, lb_bs]
      have hSs : S.size = a.size + p.size + 12 + b.size := by rw [← length_lb, hlS]; simp [hrl, length_lb]; omega
      rw [← hlS] at g1 g2 g3 g4 g5 g6
      have gg1 := fun w => records_Get S ((a.size : Nat) : Int) w (by omega) (by omega)
      have gg2 := fun w => records_Back S ((a.size + p.size + 12 : Nat) : Int) w (by omega) (by omega)
      rw [g1, g2, g3] at gg1
      rw [g4, g5, g6] at gg2
      rw [bs_lb] at gg1 gg2
      obtain ⟨T, hT⟩ : ∃ T, T = bs (recL (lb p)) := ⟨_, rfl⟩
      have hTs : T.size = p.size + 12 := by rw [hT, size_bs, hrl]
      rw [← hT] at hS
      rw [show ((a.size + p.size + 12 : Nat) : Int) = (a.size : Int) + ((p.size : Int) + 12) from by omega, hS] at gg2
      rw [show ((a.size + p.size + 12 : Nat) : Int) = (a.size : Int) + ((p.size : Int) + 12) from by omega, hS] at gg1
      have G1 := Lib.hid gg1
      have G2 := Lib.hid gg2
      have E1 := Lib.hid e1
      have E2 := Lib.hid e2
      have HT := Lib.hid hT
      clear g1 g2 g3 g4 g5 g6 gg1 gg2 hlS hSs hrl e1 e2 hS hT
      go_enter Try.func6, Try.ntmps6
      go_wp2_with fail
      refine (records_Put _ _ (by omega)).mono ?_
      rintro e w1 ⟨rfl, hb1⟩
      rw [E1.out, E2.out, ← HT.out]
      go_wp2_with fail
      refine (G1.out _).mono ?_
      rintro e w2 ⟨rfl, hb2⟩
      go_wp2_with fail
      refine (G2.out _).mono ?_
      rintro e w3 ⟨rfl, hb3⟩
      go_wp2_with fail
      refine (law_recorded _).mono ?_
      rintro e w4 ⟨rfl, hb4⟩
      go_wp2
      go_ret
      refine ⟨rfl, ?_⟩
      repeat (first | assumption | exact Below.refl _ _ | (refine below_chain (by assumption) ?_))
    · have h4' : (2000 : Int) < p.size := by omega
      have e1 : putR (lb p) = [] := by unfold putR; rw [if_pos (by rw [length_lb]; omega)]
      have e2 : putE (lb p) = 3 := by unfold putE; rw [if_pos (by rw [length_lb]; omega)]
      have E1 := Lib.hid e1
      have E2 := Lib.hid e2
      clear e1 e2
      go_enter Try.func6, Try.ntmps6
      go_wp2_with fail
      refine (records_Put _ _ (by omega)).mono ?_
      rintro e w1 ⟨rfl, hb1⟩
      rw [E1.out, E2.out]
      go_wp2_with fail
      refine (law_recorded _).mono ?_
      rintro e w4 ⟨rfl, hb4⟩
      go_wp2
      go_ret
      refine ⟨rfl, ?_⟩
      repeat (first | assumption | exact Below.refl _ _ | (refine below_chain (by assumption) ?_))
  · rcases (show (2500 : Int) < p.size ∨ (¬ (2500 : Int) < p.size ∧ (300 : Int) < a.size) ∨ (¬ (2500 : Int) < p.size ∧ ¬ (300 : Int) < a.size ∧ (300 : Int) < b.size) from by omega) with h1 | ⟨h1, h2⟩ | ⟨h1, h2, h3⟩
    all_goals
      clear h
      go_enter Try.func6, Try.ntmps6
      go_wp2_with fail
      refine (law_recorded _).mono ?_
      rintro e w1 ⟨rfl, hb1⟩
      go_wp2
      go_ret
      exact ⟨rfl, hb1⟩
end Go.Proofs.Ytjcdkekmploelaa
