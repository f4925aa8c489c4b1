/-
  Rows.BloomsMakeSaid: the bits of any hashes are the document's, or refused.
-/
import Derived.Test.YtpoeginnoocenaaOpenB
namespace Go.Proofs.Ytpoeginnoocenaa
open Go.RowKit
set_option linter.unusedVariables false

theorem and_in (a b : Int) : -9223372036854775808 ≤ bits BinOp.and IntKind.i64 a b ∧ bits BinOp.and IntKind.i64 a b ≤ 9223372036854775807 := bounds_i64 (wf_bits _ _ _ _)
theorem wrap64_in (a : Int) : -9223372036854775808 ≤ wrap64 a ∧ wrap64 a ≤ 9223372036854775807 := by unfold wrap64; omega

set_option maxHeartbeats 4000000 in
theorem BloomsMake_walk (v : Value) (l : List Nat) (v2 : Value) (n : Int × Int) (w : World) (hv : U64s w v l) (hv2 : Pair64 v2 n) :
    Calls Try.prog 4 #[v, v2] w fun e w' => e = .returned (.bool true) ∧ Below w.heap.size w w' := by
  obtain ⟨n0, n1⟩ := n
  obtain ⟨rfl, hn0, hn1⟩ := hv2
  obtain ⟨A, c, rfl, hc1, hc2, -, -⟩ := id hv.1
  unfold maxLen at hc2
  dsimp only at hn0 hn1 ⊢
  have hc := fun w' => lit_cells w #[.int .i64 n0, .int .i64 n1] 23 0 (.int .i64 n0) rfl w'
  have hd := fun w' => lit_cells w #[.int .i64 n0, .int .i64 n1] 23 1 (.int .i64 n1) rfl w'
  have hb0 := below_lit w (.cells #[.int .i64 n0, .int .i64 n1] 23)
  have hl0 := hv.next hb0
  have Hc := Lib.hid hc
  have Hd := Lib.hid hd
  have Hn0 := Lib.hid hn0
  have Hn1 := Lib.hid hn1
  clear hc hd hn0 hn1
  by_cases h3 : l.length ≤ 100
  · have h3' : ¬ (100 : Int) < l.length := by omega
    go_enter Try.func4, Try.ntmps4
    go_wp2
    generalize hW : (w.alloc (Obj.cells #[Value.int IntKind.i64 n0, Value.int IntKind.i64 n1] 23)) = w0 at Hc Hd hb0 hl0 ⊢
    have hx1 := and_in n1 4095
    have hx2 := wrap64_in (8 * bits BinOp.and IntKind.i64 (bits BinOp.and IntKind.i64 n1 4095) 255)
    have hx3 := and_in n0 15
    generalize wrap64 (8 * bits BinOp.and IntKind.i64 (bits BinOp.and IntKind.i64 n1 4095) 255) = X2 at hx2 ⊢
    have Hx1 := Lib.hid hx1
    have Hx2 := Lib.hid hx2
    have Hx3 := Lib.hid hx3
    clear hW hx1 hx2 hx3 hv
    go_loopw [22] (fun i wr => ∃ k : Nat, k ≤ 3 ∧ i = .int .i64 k ∧ Below w0.heap.size w0 wr) (fun i _ => 3 - (intOf i).toNat)
    case atStart => exact ⟨0, by omega, rfl, Below.refl _ _⟩
    case round =>
      obtain ⟨k, hk, rfl, hbr⟩ := hrel
      have y0 : ∀ x : Later wr, x.it.cell? ⟨w.heap.size, 0, none⟩ = some (.int .i64 n0) := fun x => Hc.out _ (below_more hbr x.ok (Nat.le_refl _))
      have hl1 : ∀ x : Later wr, U64s x.it (.slice A l.length c) l := fun x => hl0.next (below_more hbr x.ok (Nat.le_refl _))
      have Hl1 := Lib.hid hl1
      clear hl1
      have x0 : ∀ (a b c : Int) (w : World), (Instr.index 29 (.agg #[.int .i64 a, .int .i64 b, .int .i64 c]) (.int .i64 0)).run Try.prog w = .ok (.int .i64 a) w := fun _ _ _ _ => by kernel_rfl
      have x1 : ∀ (a b c : Int) (w : World), (Instr.index 29 (.agg #[.int .i64 a, .int .i64 b, .int .i64 c]) (.int .i64 1)).run Try.prog w = .ok (.int .i64 b) w := fun _ _ _ _ => by kernel_rfl
      have x2 : ∀ (a b c : Int) (w : World), (Instr.index 29 (.agg #[.int .i64 a, .int .i64 b, .int .i64 c]) (.int .i64 2)).run Try.prog w = .ok (.int .i64 c) w := fun _ _ _ _ => by kernel_rfl
      rcases (show k = 0 ∨ k = 1 ∨ k = 2 ∨ k = 3 from by omega) with rfl | rfl | rfl | rfl
      case inr.inr.inr =>
        go_wp2_with fail
        refine (law_bloomed _).mono ?_
        rintro e w2 ⟨rfl, hb2⟩
        go_wp2
        go_ret
        exact ⟨rfl, below_chain hb0 (below_more hbr hb2 (Nat.le_refl _))⟩
      all_goals
        go_wp2_with fail
        refine wp_region_below (by kernel_rfl) (by kernel_rfl) ?_
        repeat (first | go_big_quiet_skip | (go_big_quiet_want; go_big_quiet_op; go_big_quiet_on) | (go_big_quiet_want; go_big_quiet_op; apply Exists.intro; refine ⟨fun x => ?_, ?_⟩; (first | (go_at_call 19; exact calls_below x (blooms_Make _ _ _ _ _ (Hl1.out x) (by omega) (by first | exact Hn0.out | exact Hx3.out) (by first | exact Hn1.out | exact Hx1.out | exact Hx2.out))) | (go_at_call 20; exact calls_below x (ref_Make_ _ _ _ _ _ (Hl1.out x) (by omega) (by first | exact Hn0.out | exact Hx3.out) (by first | exact Hn1.out | exact Hx1.out | exact Hx2.out)))); go_big_quiet_on))
        refine wpQuiet_nil ?_
        intro _ hx
        obtain ⟨⟨w2, hb2⟩, rfl⟩ := hx
        go_wp2
        go_roundw
        case rel =>
          have hbw := below_more hbr hb2 (Nat.le_refl _)
          first | exact ⟨1, by omega, by rfl, hbw⟩ | exact ⟨2, by omega, by rfl, hbw⟩ | exact ⟨3, by omega, by rfl, hbw⟩
        case measure => simp [intOf]
  · have h3' : (100 : Int) < l.length := by omega
    go_enter Try.func4, Try.ntmps4
    go_wp2_with fail
    refine (law_bloomed _).mono ?_
    rintro e w1 ⟨rfl, hb1⟩
    go_wp2
    go_ret
    exact ⟨rfl, below_chain hb0 hb1⟩
end Go.Proofs.Ytpoeginnoocenaa
