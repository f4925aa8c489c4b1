/-
  blooms.each: the iterator's contract.
-/
import Derived.RangeFuncNested
import Derived.RangeFuncBound
import Derived.RangeFuncCalls
import Derived.RangeFuncLeaves
import Derived.Shelf.Abstract
import Derived.Shelf.RegionOpen
import Derived.WalkKit
import Derived.OwnWalkIn
import Derived.TacticsInMore
import Derived.LoopNIn
import Derived.LoopIn
import Derived.RangeFuncBox
import Derived.Maps.AppendAt
import Derived.Test.YtpoeginnoocenaaBloom1
namespace Go.Proofs.Ytpoeginnoocenaa
open Go.RowKit Go.Shelf
set_option linter.unusedVariables false

attribute [local go_sem] Oper.semAt_some

theorem bloom_each (h n bits : Int) (w : World) :
    Calls Try.prog 31 #[.int .u64 h, .int .i64 n, .int .i64 bits] w fun e w' => e = .returned (.func (.func 47) #[] #[.pointer (some ⟨w.heap.size + 1, 0, none⟩), .pointer (some ⟨w.heap.size, 0, none⟩), .pointer (some ⟨w.heap.size + 1 + 1, 0, none⟩)]) ∧
      ((w.alloc (.cells #[.int .u64 h] 22)).alloc (.cells #[.int .i64 n] 3)).alloc (.cells #[.int .i64 bits] 3) = w' := by
  go_enter Try.func31, Try.ntmps31
  go_wp2
  go_ret
  exact ⟨rfl, rfl⟩

def probesL (h B k : Nat) : List Nat := (List.range k).map fun i => prN h i B
@[simp] theorem length_probesL (h B k : Nat) : (probesL h B k).length = k := by simp [probesL]
theorem probesL_succ (h B k : Nat) : probesL h B (k + 1) = probesL h B k ++ [prN h k B] := by simp [probesL, List.range_succ]
/-- A bit that is one. -/
abbrev BitOf (B : Nat) := { b : Nat // b < B }
def vals {B : Nat} (xs : List (BitOf B)) : List Nat := xs.map Subtype.val
theorem vals_snoc {B : Nat} (xs : List (BitOf B)) (x : BitOf B) : vals (xs ++ [x]) = vals xs ++ [x.1] := by simp [vals]
def Keeps3 (a b c : Nat) (W W' : World) : Prop := W'.heap[a]? = W.heap[a]? ∧ W'.heap[b]? = W.heap[b]? ∧ W'.heap[c]? = W.heap[c]?
theorem keeps3_t {a b c : Nat} {X Y Z : World} (h : Keeps3 a b c X Y) (k : Keeps3 a b c Y Z) : Keeps3 a b c X Z := ⟨k.1.trans h.1, k.2.1.trans h.2.1, k.2.2.trans h.2.2⟩
theorem keeps3_b {a b c : Nat} {w : World} (ha : a < w.heap.size) (hb : b < w.heap.size) (hc : c < w.heap.size) (W : World) (l : Nat) (o o' : Obj) (hl : w.heap.size ≤ l) (_ : W.heap[l]? = some o) (_ : o.isCells = false) (_ : o.isWalk = false) : Keeps3 a b c W (W.putObj l o') :=
  ⟨World.putObj_heap_other (fun e => by omega), World.putObj_heap_other (fun e => by omega), World.putObj_heap_other (fun e => by omega)⟩

set_option maxRecDepth 100000 in
set_option maxHeartbeats 2000000 in
theorem bloom_each1 (n : Nat) (hn : 1 ≤ n) (l Bn Bh Bb : Nat) (h : Nat) (hh : h < 18446744073709551616) (m : Int) (hm : -9223372036854775808 ≤ m ∧ m ≤ 9223372036854775807) (B : Nat) (hB : 0 < B) (hB2 : (B : Int) ≤ 9223372036854775807) (J Jx : List (BitOf B) → World → Prop)
    (W : World) (hJ : AbidesFrom W.heap.size J)
    (hY : ∀ pre x W1, J pre W1 → pre.length < 64 → YieldAt Fence.wide (n - 1) Try.prog l #[.int .i64 ((x.1 : Nat) : Int)] W1 fun e W' =>
      (e = .returned (.bool true) ∧ J (pre ++ [x]) W' ∧ Keeps3 Bn Bh Bb W1 W') ∨ (e = .returned (.bool false) ∧ Jx (pre ++ [x]) W'))
    (hbn : Boxed W Bn 3 (.int .i64 m)) (hbh : Boxed W Bh 22 (.int .u64 (h : Int))) (hbb : Boxed W Bb 3 (.int .i64 (B : Int))) (h0 : J [] W) :
    CallsIn Fence.wide n Try.prog 47 #[.func (.yield l) #[] #[], .pointer (some ⟨Bn, 0, none⟩), .pointer (some ⟨Bh, 0, none⟩), .pointer (some ⟨Bb, 0, none⟩)] W fun e W' => (∃ v, e = .returned v) ∧
      ((∃ xs : List (BitOf B), vals xs = probesL h B (manyN m) ∧ J xs W') ∨ (∃ pre : List (BitOf B), (∃ k, k ≤ manyN m ∧ vals pre = probesL h B k) ∧ Jx pre W')) := by
  obtain ⟨hm1, hm2⟩ := hm
  obtain ⟨M, hM⟩ : ∃ M : Int, (if (64 : Int) < m then (64 : Int) else m) = M := ⟨_, rfl⟩
  have hMm : M ≤ 64 ∧ (manyN m : Int) = (if M < 0 then 0 else M) := by
    unfold manyN
    rw [← hM]
    constructor
    · split <;> omega
    · split <;> split <;> omega
  obtain ⟨hM1, hM2⟩ := hMm
  refine callsIn_of_wp Try.func47 rfl trivial ?_ rfl
  simp only [Try.ntmps47, List.size_toArray, List.length_cons, List.length_nil, Nat.reduceAdd, Nat.reduceSub, Array.replicate_succ, Array.replicate_zero, List.push_toArray, List.append_toArray, List.nil_append, List.cons_append]
  gi_wp2
  gi_loopw [5] (fun p wr => ∃ (pre : List (BitOf B)) (k : Nat), p = .int .i64 (k : Int) ∧ k ≤ manyN m ∧ vals pre = probesL h B k ∧ Boxed wr Bn 3 (.int .i64 m) ∧ Boxed wr Bh 22 (.int .u64 (h : Int)) ∧ Boxed wr Bb 3 (.int .i64 (B : Int)) ∧ J pre wr) (fun p wr => 64 - (intOf p).toNat)
  case atStart => exact ⟨[], 0, rfl, Nat.zero_le _, rfl, hbn, hbh, hbb, h0⟩
  case round =>
    obtain ⟨pre, k, rfl, hk, hpre, hxn, hxh, hxb, hJs⟩ := hrel
    have c1 := hxn.cell
    have c2 := hxh.cell
    have c3 := hxb.cell
    have hpl : pre.length = k := by have := congrArg List.length hpre; simpa [vals] using this
    have Hpre := Lib.hid hpre
    clear hpre
    by_cases hlt : (k : Int) < M
    · have hkm : k < manyN m := by split at hM2 <;> omega
      have hk64 : k < 64 := by omega
      have ep := prB_nat h k B hB
      obtain ⟨b, hb⟩ : ∃ b, b = prN h k B := ⟨_, rfl⟩
      have hbB : b < B := by rw [hb]; exact prN_lt h k hB
      rw [← hb] at ep
      have Hb := Lib.hid hb
      have Hep := Lib.hid ep
      clear hb ep hM2
      gi_wp2_with fail
      refine ⟨trivial, ?_⟩
      refine (callsIn_wide.2 (blooms_Probe _ _ _ _ hh (by omega) (by omega))).mono ?_
      rintro e w1 ⟨rfl, rfl⟩
      rw [Hep.out]
      obtain ⟨fn, tmps, assign, body, hy, hR⟩ := hY pre ⟨b, hbB⟩ _ hJs (by omega)
      dsimp only at hy
      gi_wp2
      refine hR.mono ?_
      rintro e W3 (⟨rfl, hJ3, hk3⟩ | ⟨rfl, hJx3⟩)
      · gi_wp2
        go_roundw
        case rel => exact ⟨pre ++ [⟨b, hbB⟩], k + 1, by go_num, by omega, by rw [vals_snoc, Hpre.out, probesL_succ]; exact congrArg (fun t => probesL h B k ++ [t]) Hb.out, Eq.trans hk3.1 hxn, Eq.trans hk3.2.1 hxh, Eq.trans hk3.2.2 hxb, hJ3⟩
        case measure => simp [intOf]; omega
      · gi_wp2
        refine bodyPost_ret (results_none rfl _ _ _) rfl ?_
        exact ⟨⟨_, rfl⟩, .inr ⟨pre ++ [⟨b, hbB⟩], ⟨k + 1, by omega, by rw [vals_snoc, Hpre.out, probesL_succ]; exact congrArg (fun t => probesL h B k ++ [t]) Hb.out⟩, hJx3⟩⟩
    · have hkm : k = manyN m := by split at hM2 <;> omega
      have hd : decide ((k : Int) < M) = false := by rw [decide_eq_false_iff_not]; exact hlt
      have Hkm := Lib.hid hkm
      clear hM2 hlt hkm
      gi_wp2
      go_end0
      exact ⟨⟨_, rfl⟩, .inl ⟨pre, by rw [Hpre.out, Hkm.out], hJs⟩⟩

theorem bloom_stops (n : Nat) (hn : 1 ≤ n) (Bn Bh Bb : Nat) (h : Nat) (hh : h < 18446744073709551616) (m : Int) (hm : -9223372036854775808 ≤ m ∧ m ≤ 9223372036854775807) (B : Nat) (hB : 0 < B) (hB2 : (B : Int) ≤ 9223372036854775807) (w : World)
    (hbn : Boxed w Bn 3 (.int .i64 m)) (hbh : Boxed w Bh 22 (.int .u64 (h : Int))) (hbb : Boxed w Bb 3 (.int .i64 (B : Int))) :
    SeqStopsK Fence.wide n Try.prog 47 #[.pointer (some ⟨Bn, 0, none⟩), .pointer (some ⟨Bh, 0, none⟩), .pointer (some ⟨Bb, 0, none⟩)] (fun x : BitOf B => #[Value.int .i64 ((x.1 : Nat) : Int)]) (Keeps3 Bn Bh Bb)
      (fun xs => vals xs = probesL h B (manyN m)) (fun pre => ∃ k, k ≤ manyN m ∧ vals pre = probesL h B k) 64 w := fun l J Jx W hW hJ _ hY h0 =>
  bloom_each1 n hn l Bn Bh Bb h hh m hm B hB hB2 J Jx W hJ hY ((hW.block Bn hbn.lt).trans hbn) ((hW.block Bh hbh.lt).trans hbh) ((hW.block Bb hbb.lt).trans hbb) h0
end Go.Proofs.Ytpoeginnoocenaa
