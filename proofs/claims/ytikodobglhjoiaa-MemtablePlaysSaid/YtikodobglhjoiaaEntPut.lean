/-
  AN ENTRY'S BYTES: the program's Put and Get, and the reference's.
-/
import Derived.Test.YtikodobglhjoiaaEnt
import Derived.Deep.RegionHeld3
namespace Go.Proofs.Ytikodobglhjoiaa
open Go.RowKit
set_option linter.unusedVariables false

/-- An entry's bytes. -/
def putEnt (e : Ent) : List UInt8 := if e.2.1 < 0 ∨ e.2.2 < 0 then [] else be 8 e.1 ++ be 8 e.2.1.toNat ++ be 8 e.2.2.toNat
theorem putL_eight (n : Nat) : putL n 8 = be 8 n := by unfold putL; rw [if_neg (by omega)]; rfl
theorem ret_s {a b : ByteArray} (h : a = b) : Ending.returned (.string a) = .returned (.string b) := by rw [h]

theorem nums_Put8 (n : Nat) (w : World) (hn : n < 18446744073709551616) :
    Calls Try.prog 57 #[.int .u64 n, .int .i64 8] w fun e w' => e = .returned (.string (bs (be 8 n))) ∧ Below w.heap.size w w' := by
  have c := nums_Put n 8 w (by omega) (by omega)
  rw [Int.toNat_natCast, putL_eight] at c
  exact c
theorem ref_Put8 (n : Nat) (w : World) (hn : n < 18446744073709551616) :
    Calls Try.prog 58 #[.int .u64 n, .int .i64 8] w fun e w' => e = .returned (.string (bs (be 8 n))) ∧ Below w.heap.size w w' := by
  have c := ref_Put n 8 w (by omega) (by omega)
  rw [Int.toNat_natCast, putL_eight] at c
  exact c
theorem ent_box (w : World) (e : Ent) (t : TypeId) (w' : World) (hb : Below (w.alloc (.cells (entC e) t)).heap.size (w.alloc (.cells (entC e) t)) w') :
    w'.cell? ⟨w.heap.size, 0, none⟩ = some (.int .u64 e.1) ∧ w'.cell? ⟨w.heap.size, 1, none⟩ = some (.int .i64 e.2.1) ∧ w'.cell? ⟨w.heap.size, 2, none⟩ = some (.int .i64 e.2.2) := by
  have hblk : (w.alloc (.cells (entC e) t)).heap[w.heap.size]? = some (.cells (entC e) t (0, 0)) := heap_alloc_new w _
  have h : ∀ j v, (entC e)[j]? = some v → w'.cell? ⟨w.heap.size, j, none⟩ = some v := fun j v h => by
    refine (hb.cell (p := ⟨w.heap.size, j, none⟩) (Array.getElem?_eq_some_iff.1 hblk).1).trans ?_
    unfold World.cell?
    rw [hblk]
    simpa using h
  exact ⟨h 0 _ rfl, h 1 _ rfl, h 2 _ rfl⟩

set_option maxHeartbeats 400000 in
theorem entries_Put (e : Ent) (w : World) (he : okE e) :
    Calls Try.prog 32 #[.agg (entC e)] w fun e' w' => e' = .returned (.string (bs (putEnt e))) ∧ Below w.heap.size w w' := by
  obtain ⟨h, v, p⟩ := e
  obtain ⟨h1, h2, h3⟩ := he
  simp only [] at h1 h2 h3
  unfold entC putEnt
  dsimp only
  go_enter Try.func32, Try.ntmps32
  have hz := (Below.refl w.heap.size w).alloc (Nat.le_refl _) (.cells #[.int .u64 h, .int .i64 v, .int .i64 p] 25)
  by_cases hv : v < 0
  · go_wp2
    go_ret
    exact ⟨ret_s (by simp [hv, bs]), hz⟩
  · by_cases hp : p < 0
    · go_wp2
      go_ret
      exact ⟨ret_s (by simp [hp, bs]), hz⟩
    · obtain ⟨v, rfl⟩ := Int.eq_ofNat_of_zero_le (a := v) (by omega)
      obtain ⟨p, rfl⟩ := Int.eq_ofNat_of_zero_le (a := p) (by omega)
      go_wp2_with fail
      have hc : ∀ x : Later (w.alloc (.cells #[.int .u64 h, .int .i64 v, .int .i64 p] 25)), x.it.cell? ⟨w.heap.size, 0, none⟩ = some (.int .u64 h) ∧ x.it.cell? ⟨w.heap.size, 1, none⟩ = some (.int .i64 v) ∧ x.it.cell? ⟨w.heap.size, 2, none⟩ = some (.int .i64 p) := fun x => ent_box w (h, (v : Int), (p : Int)) _ x.it x.ok
      have hc0 := fun x => (hc x).1
      have hc1 := fun x => (hc x).2.1
      have hc2 := fun x => (hc x).2.2
      clear hc
      refine wp_region_below (by kernel_rfl) (by kernel_rfl) ?_
      repeat (first | go_big_quiet_skip | (go_big_quiet_want; go_big_quiet_op; go_big_quiet_on) | (go_big_quiet_want; go_big_quiet_op; apply Exists.intro; refine ⟨fun x => ?_, ?_⟩; (first | (go_at_call 57; exact calls_below x (nums_Put8 _ _ (by omega)))); go_big_quiet_on))
      refine wpQuiet_nil ?_
      intro _ hx
      obtain ⟨⟨w1, hb1⟩, rfl⟩ := hx
      go_wp2
      go_ret
      refine ⟨ret_s ?_, ?_⟩
      · rw [bs_append, bs_append, List.append_assoc]
      · repeat (first | assumption | exact Below.refl _ _ | (refine below_chain (by assumption) ?_))

set_option maxHeartbeats 400000 in
theorem ref_entPut (e : Ent) (w : World) (he : okE e) :
    Calls Try.prog 33 #[.agg (entC e)] w fun e' w' => e' = .returned (.string (bs (putEnt e))) ∧ Below w.heap.size w w' := by
  obtain ⟨h, v, p⟩ := e
  obtain ⟨h1, h2, h3⟩ := he
  simp only [] at h1 h2 h3
  unfold entC putEnt
  dsimp only
  go_enter Try.func33, Try.ntmps33
  have hz := (Below.refl w.heap.size w).alloc (Nat.le_refl _) (.cells #[.int .u64 h, .int .i64 v, .int .i64 p] 25)
  by_cases hv : v < 0
  · go_wp2
    go_ret
    exact ⟨ret_s (by simp [hv, bs]), hz⟩
  · by_cases hp : p < 0
    · go_wp2
      go_ret
      exact ⟨ret_s (by simp [hp, bs]), hz⟩
    · obtain ⟨v, rfl⟩ := Int.eq_ofNat_of_zero_le (a := v) (by omega)
      obtain ⟨p, rfl⟩ := Int.eq_ofNat_of_zero_le (a := p) (by omega)
      go_wp2_with fail
      have hc : ∀ x : Later (w.alloc (.cells #[.int .u64 h, .int .i64 v, .int .i64 p] 25)), x.it.cell? ⟨w.heap.size, 0, none⟩ = some (.int .u64 h) ∧ x.it.cell? ⟨w.heap.size, 1, none⟩ = some (.int .i64 v) ∧ x.it.cell? ⟨w.heap.size, 2, none⟩ = some (.int .i64 p) := fun x => ent_box w (h, (v : Int), (p : Int)) _ x.it x.ok
      have hc0 := fun x => (hc x).1
      have hc1 := fun x => (hc x).2.1
      have hc2 := fun x => (hc x).2.2
      clear hc
      refine wp_region_below (by kernel_rfl) (by kernel_rfl) ?_
      repeat (first | go_big_quiet_skip | (go_big_quiet_want; go_big_quiet_op; go_big_quiet_on) | (go_big_quiet_want; go_big_quiet_op; apply Exists.intro; refine ⟨fun x => ?_, ?_⟩; (first | (go_at_call 58; exact calls_below x (ref_Put8 _ _ (by omega)))); go_big_quiet_on))
      refine wpQuiet_nil ?_
      intro _ hx
      obtain ⟨⟨w1, hb1⟩, rfl⟩ := hx
      go_wp2
      go_ret
      refine ⟨ret_s ?_, ?_⟩
      · rw [bs_append, bs_append, List.append_assoc]
      · repeat (first | assumption | exact Below.refl _ _ | (refine below_chain (by assumption) ?_))
/-- The entry of some bytes. -/
def hE (l : List UInt8) : Nat := num (l.take 8)
def vE (l : List UInt8) : Nat := num ((l.drop 8).take 8)
def pE (l : List UInt8) : Nat := num (l.drop 16)
def okG (l : List UInt8) : Bool := decide (l.length = 24 ∧ vE l < 9223372036854775808 ∧ pE l < 9223372036854775808)
def getE (l : List UInt8) : Ent := if okG l then (hE l, vE l, pE l) else (0, 0, 0)

theorem vE_lt (l : List UInt8) : vE l < 18446744073709551616 := by
  unfold vE
  have h := num_lt ((l.drop 8).take 8)
  refine Nat.lt_of_lt_of_le h (Nat.le_trans (Nat.pow_le_pow_right (by omega) (show _ ≤ 8 by simp; omega)) (by decide))
theorem pE_lt (l : List UInt8) (h24 : l.length = 24) : pE l < 18446744073709551616 := by
  unfold pE
  have h := num_lt (l.drop 16)
  refine Nat.lt_of_lt_of_le h (Nat.le_trans (Nat.pow_le_pow_right (by omega) (show _ ≤ 8 by simp; omega)) (by decide))
theorem hE_lt (l : List UInt8) : hE l < 18446744073709551616 := by
  unfold hE
  have h := num_lt (l.take 8)
  refine Nat.lt_of_lt_of_le h (Nat.le_trans (Nat.pow_le_pow_right (by omega) (show _ ≤ 8 by simp; omega)) (by decide))
theorem cutH (s : ByteArray) : getN (lb (s.extract 0 8)) = hE (lb s) := by
  rw [bs_extract, lb_bs]; unfold getN hE; simp [List.take_take]
theorem cutV (s : ByteArray) : getN (lb (s.extract 8 16)) = vE (lb s) := by
  rw [bs_extract, lb_bs]; unfold getN vE; simp [List.take_take]
theorem cutP (s : ByteArray) (h : s.size = 24) : getN (lb (s.extract 16 24)) = pE (lb s) := by
  rw [bs_extract, lb_bs]; unfold getN pE
  rw [List.take_take, List.take_of_length_le (by simp; omega)]
/-- A region whose orders all come to one end. -/
theorem wp_meet {P : Program} {c : Code} {Q : Exit → Act → World → Prop} {a : Act} {w : World} (A : Act) (W : World) (h1 : c.wp P (fun e a' w' => e = .normal ∧ a' = A ∧ w' = W) a w) (h2 : Q .normal A W) : c.wp P Q a w :=
  Code.wp_mono (fun e a' w' h => by obtain ⟨rfl, rfl, rfl⟩ := h; exact h2) h1
theorem ret_ab {a a' : Array Value} {o o' : Bool} (h1 : a = a') (h2 : o = o') : Ending.returned (.tuple #[.agg a, .bool o]) = .returned (.tuple #[.agg a', .bool o']) := by rw [h1, h2]

set_option maxHeartbeats 400000 in
theorem entries_Get (s : ByteArray) (w : World) (hs : s.size ≤ maxLen) :
    Calls Try.prog 28 #[.string s] w fun e w' => e = .returned (.tuple #[.agg (entC (getE (lb s))), .bool (okG (lb s))]) ∧ Below w.heap.size w w' := by
  have hz := (Below.refl w.heap.size w).alloc (Nat.le_refl _) (.cells #[.int .u64 0, .int .i64 0, .int .i64 0] 25)
  by_cases h24 : s.size = 24
  · have hv := vE_lt (lb s)
    have hp := pE_lt (lb s) (by rw [length_lb]; exact h24)
    have eH := cutH s
    have eV := cutV s
    have eP := cutP s h24
    unfold getE okG
    rw [length_lb]
    generalize vE (lb s) = v at *
    generalize pE (lb s) = p at *
    generalize hE (lb s) = h at *
    have eb : (s.size = 24 ∧ v < 9223372036854775808 ∧ p < 9223372036854775808) ↔ (v < 9223372036854775808 ∧ p < 9223372036854775808) := by simp [h24]
    have wv1 : v < 9223372036854775808 → IntKind.i64.wrap (v : Int) = v := fun h => by rw [IntKind.wrap_i64]; omega
    have wv2 : ¬ v < 9223372036854775808 → IntKind.i64.wrap (v : Int) = v - 18446744073709551616 := fun h => by rw [IntKind.wrap_i64]; omega
    have wp1 : p < 9223372036854775808 → IntKind.i64.wrap (p : Int) = p := fun h => by rw [IntKind.wrap_i64]; omega
    have wp2 : ¬ p < 9223372036854775808 → IntKind.i64.wrap (p : Int) = p - 18446744073709551616 := fun h => by rw [IntKind.wrap_i64]; omega
    generalize hv' : IntKind.i64.wrap (v : Int) = v' at wv1 wv2
    generalize hp' : IntKind.i64.wrap (p : Int) = p' at wp1 wp2
    simp only [eb]
    go_enter Try.func28, Try.ntmps28
    go_wp2_with fail
    apply wp_meet
    · go_region_held3 (fun _ => True) (trivial) ((go_at_call 55; refine (nums_Get _ _ (by rw [bs_extract]; simp [maxLen]; omega)).mono ?_; rintro e w' ⟨rfl, rfl⟩))
      all_goals exact ⟨rfl, rfl, rfl⟩
    · try simp only [hv', hp']
      by_cases h1 : v < 9223372036854775808
      · obtain rfl := wv1 h1
        by_cases h2 : p < 9223372036854775808
        · obtain rfl := wp1 h2
          go_wp2
          refine bodyPost_ret (v := .tuple #[.agg #[.int .u64 h, .int .i64 v, .int .i64 p], .bool true]) (by simp [results, Try.results28, go_sem]) rfl ⟨ret_ab (by simp [entC, h1, h2]) (by simp [h1, h2]), (lit2_below _ _ _).drew⟩
        · have := wp2 h2
          have hlt : p' < 0 := by omega
          go_wp2
          refine bodyPost_ret (v := .tuple #[.agg #[.int .u64 0, .int .i64 0, .int .i64 0], .bool false]) (by simp [results, Try.results28, go_sem]) rfl ⟨ret_ab rfl rfl, (lit2_below _ _ _).drew⟩
      · have := wv2 h1
        have hlt : v' < 0 := by omega
        go_wp2
        refine bodyPost_ret (v := .tuple #[.agg #[.int .u64 0, .int .i64 0, .int .i64 0], .bool false]) (by simp [results, Try.results28, go_sem]) rfl ⟨ret_ab rfl rfl, (lit2_below _ _ _).drew⟩
  · have h' : ¬ (s.size : Int) = 24 := by omega
    have hno : okG (lb s) = false := by unfold okG; rw [length_lb]; simp [h24]
    unfold getE
    rw [hno]
    go_enter Try.func28, Try.ntmps28
    go_wp2
    refine bodyPost_ret (v := .tuple #[.agg #[.int .u64 0, .int .i64 0, .int .i64 0], .bool false]) (by simp [results, Try.results28, go_sem]) rfl ⟨ret_ab rfl rfl, hz⟩
end Go.Proofs.Ytikodobglhjoiaa
