/-
  blooms.Has by its contract.
-/
import Derived.Test.YtpoeginnoocenaaBloomEach
import Derived.Test.YtpoeginnoocenaaRounds
namespace Go.Proofs.Ytpoeginnoocenaa
open Go.RowKit Go.Shelf
set_option linter.unusedVariables false

attribute [local go_sem] Oper.semAt_some

def AllOn (l : List UInt8) (xs : List Nat) : Prop := ∀ b ∈ xs, bitL l b = true
theorem hasL_all {s : ByteArray} {n : Int} {h : Nat} (h0 : 0 < s.size) (ha : AllOn (lb s) (probesL h (8 * s.size) (manyN n))) : hasL (lb s) n h = true := by
  refine hasL_yes (by intro e; have := length_lb s; rw [e] at this; simp at this; omega) (fun i hi => ?_)
  rw [length_lb]
  exact ha _ (by unfold probesL; exact List.mem_map.2 ⟨i, List.mem_range.2 hi, rfl⟩)
theorem hasL_off {s : ByteArray} {n : Int} {h k : Nat} (h0 : 0 < s.size) (hk : k ≤ manyN n) {b : Nat} (hb : b ∈ probesL h (8 * s.size) k) (ho : bitL (lb s) b = false) : hasL (lb s) n h = false := by
  unfold probesL at hb
  obtain ⟨i, hi, rfl⟩ := List.mem_map.1 hb
  exact hasL_no (i := i) (by intro e; have := length_lb s; rw [e] at this; simp at this; omega) (by have := List.mem_range.1 hi; omega) (by rw [length_lb]; exact ho)

theorem two_pow_mod {k : Nat} (hk : k < 8) : (2 : Int) ^ k % 256 = ((2 ^ k : Nat) : Int) := by
  have h1 : (2 : Nat) ^ k ≤ 2 ^ 7 := Nat.pow_le_pow_right (by omega) (by omega)
  have e : (2 : Int) ^ k = ((2 ^ k : Nat) : Int) := by simp
  rw [e]
  generalize (2 : Nat) ^ k = m at *
  omega
theorem and_bit_nat : ∀ k, k < 8 → ∀ x, x < 256 → ((x &&& 2 ^ k) == 0) = !(x / 2 ^ k % 2 == 1) := by decide +kernel
theorem and_bit (x k : Nat) (hx : x < 256) (hk : k < 8) : (bits BinOp.and IntKind.u8 (x : Int) (2 ^ k % 256) == 0) = !(x / 2 ^ k % 2 == 1) := by
  have h7 : (2 : Nat) ^ k ≤ 2 ^ 7 := Nat.pow_le_pow_right (by omega) (by omega)
  rw [two_pow_mod hk, u8_and_nat _ _ hx (by omega), ← and_bit_nat k hk x hx]
  rw [Bool.eq_iff_iff, beq_iff_eq, beq_iff_eq]; omega
theorem bitL_at (s : ByteArray) (b : Nat) (hq : b / 8 < s.size) : bitL (lb s) b = (s[b / 8].toNat / 2 ^ (b % 8) % 2 == 1) := by
  unfold bitL
  rw [List.getD_eq_getElem?_getD, List.getElem?_eq_getElem (by rw [length_lb]; exact hq)]
  rfl

set_option maxRecDepth 100000 in
set_option maxHeartbeats 2000000 in
theorem blooms_Has (s : ByteArray) (n : Int) (h : Nat) (w : World) (hs : s.size ≤ 1000000000) (hn : -9223372036854775808 ≤ n ∧ n ≤ 9223372036854775807) (hh : h < 18446744073709551616) :
    Calls Try.prog 17 #[.string s, .int .i64 n, .int .u64 h] w fun e w' => e = .returned (.bool (hasL (lb s) n h)) ∧ Below w.heap.size w w' := by
  by_cases h0 : s.size = 0
  · have hs0 : s = ByteArray.empty := by
      have : lb s = [] := List.eq_nil_of_length_eq_zero (by rw [length_lb]; omega)
      rw [← bs_lb s, this]; rfl
    subst hs0
    have e : hasL (lb ByteArray.empty) n h = true := rfl
    rw [e]
    go_enter Try.func17, Try.ntmps17
    go_wp2
    refine bodyPost_ret (v := .bool true) (by simp [results, Try.results17, go_sem]) rfl ⟨rfl, ?_⟩
    exact ((Below.refl _ _).alloc (Nat.le_refl _) _).alloc (by simp) _
  · have hpos : 0 < s.size := by omega
    have hB : 0 < 8 * s.size := by omega
    have hne : (s.toList == []) = false := by
      rw [toList_lb, beq_eq_false_iff_ne]
      intro e; have := length_lb s; rw [e] at this; simp at this; omega
    refine (callsIn_wide (n := 5)).1 ?_
    refine callsIn_of_wp_marks Try.func17 rfl trivial ?_ rfl
    simp only [Try.ntmps17, List.size_toArray, List.length_cons, List.length_nil, Nat.reduceAdd, Nat.reduceSub, Array.replicate_succ, Array.replicate_zero, List.push_toArray, List.append_toArray, List.nil_append, List.cons_append]
    gi_wp2_with fail
    refine ⟨trivial, ?_⟩
    refine (callsIn_wide.2 (bloom_each _ _ _ _)).mono ?_
    rintro e w1 ⟨rfl, rfl⟩
    gi_wp2_with fail
    obtain ⟨W0, hW0⟩ : ∃ W0, W0 = (((((w.alloc (Obj.cells #[Value.string s] 9)).alloc (Obj.cells #[Value.bool false] 4)).alloc (Obj.cells #[Value.int IntKind.u64 (h : Int)] 22)).alloc (Obj.cells #[Value.int IntKind.i64 n] 3)).alloc (Obj.cells #[Value.int IntKind.i64 (8 * (s.size : Int))] 3)) := ⟨_, rfl⟩
    have b1 : Boxed W0 w.heap.size 9 (.string s) := by rw [hW0]; exact ((((Boxed.new w _ _).alloc _).alloc _).alloc _).alloc _
    have b2 : Boxed W0 (w.heap.size + 1) 4 (.bool false) := by
      rw [hW0]; have := Boxed.new (w.alloc (Obj.cells #[Value.string s] 9)) 4 (.bool false); rw [World.size_alloc] at this; exact ((this.alloc _).alloc _).alloc _
    have b3 : Boxed W0 (w.heap.size + 1 + 1) 22 (.int .u64 (h : Int)) := by
      rw [hW0]; have := Boxed.new ((w.alloc (Obj.cells #[Value.string s] 9)).alloc (Obj.cells #[Value.bool false] 4)) 22 (.int .u64 (h : Int)); rw [World.size_alloc, World.size_alloc] at this; exact (this.alloc _).alloc _
    have b4 : Boxed W0 (w.heap.size + 1 + 1 + 1) 3 (.int .i64 n) := by
      rw [hW0]; have := Boxed.new (((w.alloc (Obj.cells #[Value.string s] 9)).alloc (Obj.cells #[Value.bool false] 4)).alloc (Obj.cells #[Value.int IntKind.u64 (h : Int)] 22)) 3 (.int .i64 n); rw [World.size_alloc, World.size_alloc, World.size_alloc] at this; exact this.alloc _
    have b5 : Boxed W0 (w.heap.size + 1 + 1 + 1 + 1) 3 (.int .i64 ((8 * s.size : Nat) : Int)) := by
      rw [hW0]; have := Boxed.new ((((w.alloc (Obj.cells #[Value.string s] 9)).alloc (Obj.cells #[Value.bool false] 4)).alloc (Obj.cells #[Value.int IntKind.u64 (h : Int)] 22)).alloc (Obj.cells #[Value.int IntKind.i64 n] 3)) 3 (.int .i64 (8 * (s.size : Int))); rw [World.size_alloc, World.size_alloc, World.size_alloc, World.size_alloc] at this; exact this
    have hB0 : Below w.heap.size w W0 := by
      rw [hW0]; exact (((((Below.refl _ w).alloc (Nat.le_refl _) _).alloc (by simp) _).alloc (by simp; omega) _).alloc (by simp; omega) _).alloc (by simp; omega) _
    have hsz : W0.heap.size = w.heap.size + 5 := by rw [hW0]; simp
    rw [← hW0]
    clear hW0
    refine wpIn_rangeFunc_ownG rfl (by omega) (gf := 47) (lb := #[.pointer (some ⟨w.heap.size + 1 + 1 + 1, 0, none⟩), .pointer (some ⟨w.heap.size + 1 + 1, 0, none⟩), .pointer (some ⟨w.heap.size + 1 + 1 + 1 + 1, 0, none⟩)]) rfl trivial (enters_of Try.func47 (by kernel_rfl) rfl)
      (bloom_stops _ (by omega) (w.heap.size + 1 + 1 + 1) (w.heap.size + 1 + 1) (w.heap.size + 1 + 1 + 1 + 1) h hh n hn (8 * s.size) hB (by omega) W0 b4 b3 b5) keeps3_t (keeps3_b (by omega) (by omega) (by omega)) (Below.refl _ _) (fun _ => rfl)
      (fun pre W => Boxed W w.heap.size 9 (.string s) ∧ Boxed W (w.heap.size + 1) 4 (.bool false) ∧ Below w.heap.size w W ∧ AllOn (lb s) (vals pre))
      (fun c pre W => (c = .ret ∧ ∃ b, b ∈ vals pre ∧ bitL (lb s) b = false) ∧ Boxed W (w.heap.size + 1) 4 (.bool false) ∧ Below w.heap.size w W)
      ?own ?ownx
      ⟨b1, b2, hB0, by intro b hb; simp [vals] at hb⟩
      (fun x => { tmps := #[.string s, .int .i64 n, .int .u64 (h : Int), .pointer (some ⟨w.heap.size, 0, none⟩), undef, undef, .pointer (some ⟨w.heap.size + 1, 0, none⟩), .int .i64 ((x.1 : Nat) : Int), .string s, .bool false, .int .u64 (h : Int), .int .i64 n, .string s, .int .i64 (s.size : Int), .int .i64 (8 * (s.size : Int)),
        .func (.func 47) #[] #[.pointer (some ⟨w.heap.size + 1 + 1 + 1, 0, none⟩), .pointer (some ⟨w.heap.size + 1 + 1, 0, none⟩), .pointer (some ⟨w.heap.size + 1 + 1 + 1 + 1, 0, none⟩)], .int .i64 ((x.1 : Nat) : Int), undef, undef, undef, undef, undef, undef, undef, undef, undef], defers := [] }) ?assign ?body ?done ?stop
    case own => exact OwnFrom.and (Own.from (boxed_own _ _ _) _) (OwnFrom.and (Own.from (boxed_own _ _ _) _) (OwnFrom.and (ownFrom_below (Nat.le_refl _) (by omega)) (ownFrom_pure _ _)))
    case ownx => intro c; exact OwnFrom.and (ownFrom_pure _ _) (OwnFrom.and (Own.from (boxed_own _ _ _) _) (ownFrom_below (Nat.le_refl _) (by omega)))
    case assign =>
      intro l x W K hK
      gi_wp2
      exact hK
    case body =>
      rintro l pre ⟨b, hb⟩ W ⟨h1, h2, h3, h4⟩ hlt
      have c1 := h1.cell
      have c2 := h2.cell
      have f2 := h2.frozen
      have hq : b / 8 < s.size := by omega
      have i1 : (b : Int) / 8 < s.size := by omega
      have i2 : (b : Int) % 8 ≤ 7 := by omega
      have i3 : (0 : Int) ≤ (b : Int) / 8 := by omega
      have i4 : (0 : Int) ≤ (b : Int) % 8 := by omega
      have hw := and_bit s[b / 8].toNat (b % 8) s[b / 8].toNat_lt (by omega)
      rw [← bitL_at s b hq] at hw
      have H4 := Lib.hid h4
      clear h4
      rcases hbit : bitL (lb s) b with _ | _
      · rw [hbit] at hw
        have Hbit := Lib.hid hbit
        clear hbit
        dsimp only
        gi_wp2
        refine region_quiet_round l rfl (by kernel_rfl) (by kernel_rfl) (by kernel_rfl) ?_
        repeat (gi_big_quiet_step (fail))
        refine wpQuietIn_nil ?_
        rintro _ ⟨nq, rfl⟩
        gi_wp2
        refine ⟨?_, ⟨rfl, b, by rw [vals_snoc]; simp, Hbit.out⟩, ?_, ?_⟩
        · exact (KeepsOthers.setCell (W.drewN nq) _ _).from _ |> fun h => ⟨h.size, h.same⟩
        · exact Boxed.set (v := .bool false) (.bool false) h2
        · exact (below_drewN h3 nq).setCell (p := ⟨w.heap.size + 1, 0, none⟩) (by show w.heap.size ≤ w.heap.size + 1; omega) _
      · rw [hbit] at hw
        have Hbit := Lib.hid hbit
        clear hbit
        dsimp only
        gi_wp2
        refine region_quiet_round l rfl (by kernel_rfl) (by kernel_rfl) (by kernel_rfl) ?_
        repeat (gi_big_quiet_step (fail))
        refine wpQuietIn_nil ?_
        rintro _ ⟨nq, rfl⟩
        gi_wp2
        refine ⟨⟨Nat.le_refl _, fun i o _ hi _ => hi⟩, ⟨rfl, rfl, rfl⟩, h1, h2, below_drewN h3 nq, ?_⟩
        rw [vals_snoc]
        intro c hc
        rcases List.mem_append.1 hc with hc | hc
        · exact H4.out c hc
        · rw [List.mem_singleton.1 hc]; exact Hbit.out
    case done =>
      rintro D xs W hD hS ⟨h1, h2, h3, h4⟩ hK
      have c2 := h2.cell
      have f2 := h2.frozen
      have hT : hasL (lb s) n h = true := hasL_all hpos (by rw [← hS]; exact h4)
      have HT := Lib.hid hT
      have hK2 : (W.setCell ⟨w.heap.size + 1, 0, none⟩ (.bool true)).heap[D]? = some (.deferred (some [])) := (KeepsOthers.setCell W ⟨w.heap.size + 1, 0, none⟩ (.bool true)).same D _ hK rfl
      have hb2 := h2.set (.bool true)
      have hB2 : Below w.heap.size w (W.setCell ⟨w.heap.size + 1, 0, none⟩ (.bool true)) := h3.setCell (p := ⟨w.heap.size + 1, 0, none⟩) (by show w.heap.size ≤ w.heap.size + 1; omega) _
      have HK2 := Lib.hid hK2
      have Hb2 := Lib.hid hb2
      have HB2 := Lib.hid hB2
      clear hT h4 hK hK2 hb2 hB2 hS
      gi_wp2
      have q0 : ∀ o, ((W.setCell ⟨w.heap.size + 1, 0, none⟩ (.bool true)).putObj D o).cell? ⟨w.heap.size + 1, 0, none⟩ = some (.bool true) := fun o => (World.cell?_of_block (World.putObj_heap_other (by show w.heap.size + 1 ≠ D; omega))).trans Hb2.out.cell
      refine ⟨by simp, .inl ⟨_, _, rfl, run_takeDeferred HK2.out, ?_⟩⟩
      refine ⟨.bool true, by simp [results, Try.results17, go_sem, q0], ret_bool HT.out.symm, ?_⟩
      exact HB2.out.trans (belowK_b (w := w) (Nat.le_refl _) _ D _ _ (by omega) HK2.out rfl rfl)
    case stop =>
      rintro D c pre W hD ⟨k, hk, hpre⟩ ⟨⟨rfl, b, hb, hoff⟩, h2, h3⟩ hK
      have c2 := h2.cell
      have hF : hasL (lb s) n h = false := hasL_off hpos hk (by rw [← hpre]; exact hb) hoff
      have HF := Lib.hid hF
      have HK := Lib.hid hK
      clear hF hK hpre hb hoff
      gi_wp2
      have q0 : ∀ o, (W.putObj D o).cell? ⟨w.heap.size + 1, 0, none⟩ = some (.bool false) := fun o => (World.cell?_of_block (World.putObj_heap_other (by show w.heap.size + 1 ≠ D; omega))).trans h2.cell
      refine ⟨by simp, .inl ⟨_, _, rfl, run_takeDeferred HK.out, ?_⟩⟩
      refine ⟨.bool false, by simp [results, Try.results17, go_sem, q0], ret_bool HF.out.symm, ?_⟩
      exact h3.trans (belowK_b (w := w) (Nat.le_refl _) _ D _ _ (by omega) HK.out rfl rfl)
end Go.Proofs.Ytpoeginnoocenaa
