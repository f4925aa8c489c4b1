/-
  EVENTS: their bytes, and what is read: the program's and the reference's.
-/
import Derived.Test.YtmplabhofhllmaaEv
namespace Go.Proofs.Ytmplabhofhllmaa
open Go.RowKit
set_option linter.unusedVariables false

theorem putL_8 (n : Nat) : putL n 8 = be 8 n := by unfold putL; rw [if_neg (by omega)]; rfl
theorem nums_Put8v (n : Nat) (w : World) (hn : n < 18446744073709551616) :
    Calls Try.prog 40 #[.int .u64 n, .int .i64 8] w fun e w' => e = .returned (.string (bs (be 8 n))) ∧ Below w.heap.size w w' := by
  have c := nums_Put n 8 w (by omega) (by omega)
  rw [Int.toNat_natCast, putL_8] at c
  exact c
theorem ref_Put8v (n : Nat) (w : World) (hn : n < 18446744073709551616) :
    Calls Try.prog 44 #[.int .u64 n, .int .i64 8] w fun e w' => e = .returned (.string (bs (be 8 n))) ∧ Below w.heap.size w w' := by
  have c := ref_Put n 8 w (by omega) (by omega)
  rw [Int.toNat_natCast, putL_8] at c
  exact c
theorem ev_box (w : World) (e : Ev) (t : TypeId) (w' : World) (hb : Below (w.alloc (.cells (evC e) t)).heap.size (w.alloc (.cells (evC e) t)) w') :
    w'.cell? ⟨w.heap.size, 0, none⟩ = some (.string e.1) ∧ w'.cell? ⟨w.heap.size, 1, none⟩ = some (.string e.2.1) ∧ w'.cell? ⟨w.heap.size, 2, none⟩ = some (.float .f64 e.2.2) := by
  have hblk : (w.alloc (.cells (evC e) t)).heap[w.heap.size]? = some (.cells (evC e) t (0, 0)) := heap_alloc_new w _
  have h : ∀ j v, (evC e)[j]? = some v → w'.cell? ⟨w.heap.size, j, none⟩ = some v := fun j v h => by
    refine (hb.cell (p := ⟨w.heap.size, j, none⟩) (Array.getElem?_eq_some_iff.1 hblk).1).trans ?_
    unfold World.cell?
    rw [hblk]
    simpa using h
  exact ⟨h 0 _ rfl, h 1 _ rfl, h 2 _ rfl⟩
theorem bs_raw (t d : ByteArray) (n : Nat) : bs (textL (lb t)) ++ bs (textL (lb d)) ++ bs (be 8 n) = bs (rawV (t, d, n)) := by
  unfold rawV; rw [bs_append, bs_append, List.append_assoc]
theorem ret_st {a b : ByteArray} (h : a = b) : Ending.returned (.string a) = .returned (.string b) := by rw [h]

set_option maxHeartbeats 400000 in
theorem events_Bytes (x : Ev) (w : World) (hx : okV x) :
    Calls Try.prog 41 #[.agg (evC x)] w fun e w' => e = .returned (.string (bs (bytesV x))) ∧ Below w.heap.size w w' := by
  have hck := fun w => events_Check x w hx
  have hbx := fun w' hb => ev_box w x 46 w' hb
  have hz := lit_below w (.cells (evC x) 46)
  obtain ⟨t, d, n⟩ := x
  obtain ⟨h1, h2, h3⟩ := hx
  simp only [maxLen] at h1 h2 h3
  simp only [] at hbx
  unfold evC at hck hbx hz ⊢
  dsimp only at hck hbx hz ⊢
  by_cases hc : checkV (t, d, n) = 0
  · obtain ⟨p1, p2, p3⟩ := check_parts hc
    simp only [] at p1 p2 p3
    have hb : bytesV (t, d, n) = rawV (t, d, n) := by unfold bytesV; rw [if_pos hc]
    rw [hc] at hck
    rw [hb, ← bs_raw]
    have hT1 := fun w => nums_Text t w (by omega)
    have hT2 := fun w => nums_Text d w (by omega)
    have lT1 : (textL (lb t)).length ≤ 1000 := by rw [textL_length _ (by rw [length_lb]; omega), length_lb]; omega
    have lT2 : (textL (lb d)).length ≤ 1000 := by rw [textL_length _ (by rw [length_lb]; omega), length_lb]; omega
    generalize textL (lb t) = T1 at hT1 lT1 ⊢
    generalize textL (lb d) = T2 at hT2 lT2 ⊢
    clear hb hc
    have hf := run_f64bits
    go_enter Try.func41, Try.ntmps41
    go_wp2_with fail
    refine (hck _).mono ?_
    rintro e w1 ⟨rfl, hb1⟩
    have hcc := fun x : Later w1 => hbx x.it (below_chain hb1 x.ok)
    have hc0 := fun x => (hcc x).1
    have hc1 := fun x => (hcc x).2.1
    have hc2 := fun x => (hcc x).2.2
    clear hcc hbx hck
    go_wp2_with fail
    refine wp_region_below (by kernel_rfl) (by kernel_rfl) ?_
    repeat (first | go_big_quiet_skip | (go_big_quiet_want; go_big_quiet_op; go_big_quiet_on) | (go_big_quiet_want; go_big_quiet_op; apply Exists.intro; refine ⟨fun x => ?_, ?_⟩; (first | (go_at_call 39; with_reducible exact calls_below x (hT1 _)) | (go_at_call 39; with_reducible exact calls_below x (hT2 _)) | (go_at_call 40; exact calls_below x (nums_Put8v n _ (by omega)))); go_big_quiet_on))
    refine wpQuiet_nil ?_
    intro _ hx
    obtain ⟨⟨w2, hb2⟩, rfl⟩ := hx
    go_wp2
    go_ret
    exact ⟨rfl, below_chain hz (below_chain hb1 hb2)⟩
  · have hb : bytesV (t, d, n) = [] := by unfold bytesV; rw [if_neg hc]
    rw [hb]
    have hcI : ¬ checkV (t, d, n) = 0 := hc
    generalize checkV (t, d, n) = c at hck hcI
    have hf := run_f64bits
    go_enter Try.func41, Try.ntmps41
    go_wp2_with fail
    refine (hck _).mono ?_
    rintro e w1 ⟨rfl, hb1⟩
    clear hck hbx
    go_wp2
    go_ret
    exact ⟨rfl, below_chain hz hb1⟩

set_option maxHeartbeats 400000 in
theorem ref_Bytes (x : Ev) (w : World) (hx : okV x) :
    Calls Try.prog 45 #[.agg (evC x)] w fun e w' => e = .returned (.string (bs (bytesV x))) ∧ Below w.heap.size w w' := by
  have hck := fun w => ref_Check x w hx
  have hbx := fun w' hb => ev_box w x 46 w' hb
  have hz := lit_below w (.cells (evC x) 46)
  obtain ⟨t, d, n⟩ := x
  obtain ⟨h1, h2, h3⟩ := hx
  simp only [maxLen] at h1 h2 h3
  simp only [] at hbx
  unfold evC at hck hbx hz ⊢
  dsimp only at hck hbx hz ⊢
  by_cases hc : checkV (t, d, n) = 0
  · obtain ⟨p1, p2, p3⟩ := check_parts hc
    simp only [] at p1 p2 p3
    have hb : bytesV (t, d, n) = rawV (t, d, n) := by unfold bytesV; rw [if_pos hc]
    rw [hc] at hck
    rw [hb, ← bs_raw]
    have hT1 := fun w => ref_Text t w (by omega)
    have hT2 := fun w => ref_Text d w (by omega)
    have lT1 : (textL (lb t)).length ≤ 1000 := by rw [textL_length _ (by rw [length_lb]; omega), length_lb]; omega
    have lT2 : (textL (lb d)).length ≤ 1000 := by rw [textL_length _ (by rw [length_lb]; omega), length_lb]; omega
    generalize textL (lb t) = T1 at hT1 lT1 ⊢
    generalize textL (lb d) = T2 at hT2 lT2 ⊢
    clear hb hc
    have hf := run_f64bits
    go_enter Try.func45, Try.ntmps45
    go_wp2_with fail
    refine (hck _).mono ?_
    rintro e w1 ⟨rfl, hb1⟩
    have hcc := fun x : Later w1 => hbx x.it (below_chain hb1 x.ok)
    have hc0 := fun x => (hcc x).1
    have hc1 := fun x => (hcc x).2.1
    have hc2 := fun x => (hcc x).2.2
    clear hcc hbx hck
    go_wp2_with fail
    refine wp_region_below (by kernel_rfl) (by kernel_rfl) ?_
    repeat (first | go_big_quiet_skip | (go_big_quiet_want; go_big_quiet_op; go_big_quiet_on) | (go_big_quiet_want; go_big_quiet_op; apply Exists.intro; refine ⟨fun x => ?_, ?_⟩; (first | (go_at_call 43; with_reducible exact calls_below x (hT1 _)) | (go_at_call 43; with_reducible exact calls_below x (hT2 _)) | (go_at_call 44; exact calls_below x (ref_Put8v n _ (by omega)))); go_big_quiet_on))
    refine wpQuiet_nil ?_
    intro _ hx
    obtain ⟨⟨w2, hb2⟩, rfl⟩ := hx
    go_wp2
    go_ret
    exact ⟨rfl, below_chain hz (below_chain hb1 hb2)⟩
  · have hb : bytesV (t, d, n) = [] := by unfold bytesV; rw [if_neg hc]
    rw [hb]
    have hcI : ¬ checkV (t, d, n) = 0 := hc
    generalize checkV (t, d, n) = c at hck hcI
    have hf := run_f64bits
    go_enter Try.func45, Try.ntmps45
    go_wp2_with fail
    refine (hck _).mono ?_
    rintro e w1 ⟨rfl, hb1⟩
    clear hck hbx
    go_wp2
    go_ret
    exact ⟨rfl, below_chain hz hb1⟩
end Go.Proofs.Ytmplabhofhllmaa
