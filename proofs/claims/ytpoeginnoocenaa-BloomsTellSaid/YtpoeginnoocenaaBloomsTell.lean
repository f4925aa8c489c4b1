/-
  Rows.BloomsTellSaid: which bit any probe of any hash asks, and whether any bytes have a hash, is the document's.
-/
import Derived.Test.YtpoeginnoocenaaOpenB
namespace Go.Proofs.Ytpoeginnoocenaa
open Go.RowKit
set_option linter.unusedVariables false

set_option maxHeartbeats 4000000 in
theorem BloomsTell_walk (h : Int) (v : Value) (n : Int × Int) (s : ByteArray) (w : World) (hh : 0 ≤ h ∧ h ≤ 18446744073709551615) (hv : Pair64 v n) (hs : s.size ≤ maxLen) :
    Calls Try.prog 3 #[.int .u64 h, v, .string s] w fun e w' => e = .returned (.bool true) ∧ Below w.heap.size w w' := by
  obtain ⟨h, rfl⟩ := Int.eq_ofNat_of_zero_le hh.1
  have hh64 : h < 18446744073709551616 := by have := hh.2; omega
  obtain ⟨n0, n1⟩ := n
  obtain ⟨rfl, hn0, hn1⟩ := hv
  dsimp only at hn0 hn1 ⊢
  unfold maxLen at hs
  clear hh
  have hc := fun w' => lit_cells w #[.int .i64 n0, .int .i64 n1] 23 0 (.int .i64 n0) rfl w'
  have hd := fun w' => lit_cells w #[.int .i64 n0, .int .i64 n1] 23 1 (.int .i64 n1) rfl w'
  have hb0 := below_lit w (.cells #[.int .i64 n0, .int .i64 n1] 23)
  have Hc := Lib.hid hc
  have Hd := Lib.hid hd
  clear hc hd
  by_cases h3 : s.size ≤ 300
  · have h3' : ¬ (300 : Int) < s.size := by omega
    have hs9 : s.size ≤ 1000000000 := by omega
    have Hn0 := Lib.hid hn0
    have Hn1 := Lib.hid hn1
    clear hn0 hn1
    go_enter Try.func3, Try.ntmps3
    go_wp2_with fail
    generalize hW : (w.alloc (Obj.cells #[Value.int IntKind.i64 n0, Value.int IntKind.i64 n1] 23)) = w0 at Hc Hd hb0 ⊢
    clear hW
    go_loopw [7] (fun i wr => ∃ k : Nat, k ≤ 20 ∧ i = .int .i64 k ∧ Below w0.heap.size w0 wr) (fun i _ => 20 - (intOf i).toNat)
    case atStart => exact ⟨0, by omega, rfl, Below.refl _ _⟩
    case round =>
      obtain ⟨k, hk, rfl, hbr⟩ := hrel
      have x0 : ∀ x : Later wr, x.it.cell? ⟨w.heap.size, 0, none⟩ = some (.int .i64 n0) := fun x => Hc.out _ (below_more hbr x.ok (Nat.le_refl _))
      have x1 : ∀ x : Later wr, x.it.cell? ⟨w.heap.size, 1, none⟩ = some (.int .i64 n1) := fun x => Hd.out _ (below_more hbr x.ok (Nat.le_refl _))
      by_cases h20 : k < 20
      · have k20 : (k : Int) < 20 := by omega
        go_wp2_with fail
        refine wp_region_below (by kernel_rfl) (by kernel_rfl) ?_
        repeat (first | go_big_quiet_skip | (go_big_quiet_want; go_big_quiet_op; go_big_quiet_on) | (go_big_quiet_want; go_big_quiet_op; apply Exists.intro; refine ⟨fun x => ?_, ?_⟩; (first | (go_at_call 15; exact calls_same x (blooms_Probe _ _ _ _ hh64 (by omega) Hn1.out)) | (go_at_call 16; exact calls_same x (ref_Probe _ _ _ _ hh64 (by omega) Hn1.out)) | (go_at_call 17; exact calls_below x (blooms_Has _ _ _ _ hs9 (by omega) hh64)) | (go_at_call 18; exact calls_same x (ref_Has _ _ _ _ hs9 (by omega) hh64))); go_big_quiet_on))
        refine wpQuiet_nil ?_
        intro _ hx
        obtain ⟨⟨w2, hb2⟩, rfl⟩ := hx
        go_wp2
        go_roundw
        case rel => exact ⟨k + 1, by omega, by go_num, below_more hbr hb2 (Nat.le_refl _)⟩
        case measure => simp [intOf]; omega
      · obtain rfl : k = 20 := by omega
        go_wp2_with fail
        refine wp_region_below (by kernel_rfl) (by kernel_rfl) ?_
        repeat (first | go_big_quiet_skip | (go_big_quiet_want; go_big_quiet_op; go_big_quiet_on) | (go_big_quiet_want; go_big_quiet_op; apply Exists.intro; refine ⟨fun x => ?_, ?_⟩; (first | (go_at_call 15; exact calls_same x (blooms_Probe _ _ _ _ hh64 Hn0.out Hn1.out)) | (go_at_call 16; exact calls_same x (ref_Probe _ _ _ _ hh64 Hn0.out Hn1.out)) | (go_at_call 17; exact calls_below x (blooms_Has _ _ _ _ hs9 Hn0.out hh64)) | (go_at_call 18; exact calls_same x (ref_Has _ _ _ _ hs9 Hn0.out hh64)) | (go_at_call 14; exact calls_below x (law_bloomed _))); go_big_quiet_on))
        refine wpQuiet_nil ?_
        intro _ hx
        obtain ⟨⟨w2, hb2⟩, rfl⟩ := hx
        go_wp2
        go_ret
        exact ⟨rfl, below_chain hb0 (below_more hbr hb2 (Nat.le_refl _))⟩
  · have h3' : (300 : Int) < s.size := by omega
    go_enter Try.func3, Try.ntmps3
    go_wp2_with fail
    refine (law_bloomed _).mono ?_
    rintro e w1 ⟨rfl, hb1⟩
    go_wp2
    go_ret
    exact ⟨rfl, below_chain hb0 hb1⟩
end Go.Proofs.Ytpoeginnoocenaa
