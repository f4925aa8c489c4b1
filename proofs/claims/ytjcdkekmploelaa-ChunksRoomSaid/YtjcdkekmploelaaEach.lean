/-
  records.each: the iterator's contract.
-/
import Derived.RangeFuncNested
import Derived.RangeFuncBound
import Derived.RangeFuncCalls
import Derived.RangeFuncLeaves
import Derived.Shelf.Abstract
import Derived.Shelf.RegionOpen
import Derived.WalkKit
import Derived.OwnWalkIn
import Derived.TacticsInMore
import Derived.LoopNIn
import Derived.LoopIn
import Derived.RangeFuncBox
import Derived.Maps.AppendAt
import Derived.Test.YtjcdkekmploelaaWhole
namespace Go.Proofs.Ytjcdkekmploelaa
open Go.RowKit Go.Shelf
set_option linter.unusedVariables false

attribute [local go_sem] Oper.semAt_some

theorem rec_each (s : ByteArray) (a : Int) (w : World) :
    Calls Try.prog 41 #[.string s, .int .i64 a] w fun e w' => e = .returned (.func (.func 49) #[] #[.pointer (some ⟨w.heap.size + 1, 0, none⟩), .pointer (some ⟨w.heap.size, 0, none⟩)]) ∧
      (w.alloc (.cells #[.string s] 9)).alloc (.cells #[.int .i64 a] 3) = w' := by
  go_enter Try.func41, Try.ntmps41
  go_wp2
  go_ret
  exact ⟨rfl, rfl⟩

/-- What the rounds have been handed: places and ends. -/
def PairsAt (l : List UInt8) (f : Nat) (pre : List (Nat × Nat)) (a : Nat) : Prop := WholeAt l (f : Int) (pre.map Prod.fst) a ∧ ((pre.getLast?).map Prod.snd).getD f = a
def PairsDone (l : List UInt8) (f : Nat) (xs : List (Nat × Nat)) : Prop := wAt l (f : Int) = xs.map Prod.fst ∧ wEnd l (f : Int) = ((xs.getLast?).map Prod.snd).getD f
/-- The iterator's own word: the block of the text stays. -/
def KeepsBox (b : Nat) (W W' : World) : Prop := W'.heap[b]? = W.heap[b]?
theorem keepsBox_t {b : Nat} {A B C : World} (h : KeepsBox b A B) (k : KeepsBox b B C) : KeepsBox b A C := Eq.trans k h
theorem keepsBox_b {b : Nat} {w : World} (hb : b < w.heap.size) (W : World) (l : Nat) (o o' : Obj) (hl : w.heap.size ≤ l) (_ : W.heap[l]? = some o) (_ : o.isCells = false) (_ : o.isWalk = false) : KeepsBox b W (W.putObj l o') :=
  World.putObj_heap_other (fun e => by omega)
theorem below_grown {w w' : World} (h : Below w.heap.size w w') : w.grownBy w' none := ⟨h.os, h.tape, h.output, h.size, fun k hk _ => h.block k hk⟩

set_option maxRecDepth 100000 in
set_option maxHeartbeats 2000000 in
theorem rec_each1 (n : Nat) (hn : 1 ≤ n) (l Bs Bf : Nat) (s : ByteArray) (f : Nat) (hs : s.size ≤ 1000000000000) (hf : f ≤ s.size) (J Jx : List (Nat × Nat) → World → Prop)
    (W : World) (hJ : AbidesFrom W.heap.size J)
    (hY : ∀ pre x W1, J pre W1 → pre.length < s.size → YieldAt Fence.wide (n - 1) Try.prog l #[.int .i64 ((x.1 : Nat) : Int), .int .i64 ((x.2 : Nat) : Int)] W1 fun e W' =>
      (e = .returned (.bool true) ∧ J (pre ++ [x]) W' ∧ KeepsBox Bs W1 W') ∨ (e = .returned (.bool false) ∧ Jx (pre ++ [x]) W'))
    (hBs : Boxed W Bs 9 (.string s)) (hBf : Boxed W Bf 3 (.int .i64 (f : Int))) (h0 : J [] W) :
    CallsIn Fence.wide n Try.prog 49 #[.func (.yield l) #[] #[], .pointer (some ⟨Bf, 0, none⟩), .pointer (some ⟨Bs, 0, none⟩)] W fun e W' => (∃ v, e = .returned v) ∧
      ((∃ xs, PairsDone (lb s) f xs ∧ J xs W') ∨ (∃ pre : List (Nat × Nat), True ∧ Jx pre W')) := by
  have hcf := hBf.cell
  have hcs := hBs.cell
  refine callsIn_of_wp Try.func49 rfl trivial ?_ rfl
  simp only [Try.ntmps49, List.size_toArray, List.length_cons, List.length_nil, Nat.reduceAdd, Nat.reduceSub, Array.replicate_succ, Array.replicate_zero, List.push_toArray, List.append_toArray, List.nil_append, List.cons_append]
  gi_wp2
  gi_loopw [4] (fun p wr => ∃ (pre : List (Nat × Nat)) (a : Nat), p = .int .i64 (a : Int) ∧ PairsAt (lb s) f pre a ∧ Boxed wr Bs 9 (.string s) ∧ J pre wr) (fun p wr => s.size - (intOf p).toNat)
  case atStart => exact ⟨[], f, rfl, ⟨WholeAt.start _ _ (by rw [length_lb]; exact hf), rfl⟩, hBs, h0⟩
  case round =>
    obtain ⟨pre, a, rfl, hP, hbx, hJs⟩ := hrel
    have hcs' := hbx.cell
    have hle := hP.1.le
    have hfew := hP.1.few
    rw [length_lb] at hle
    rw [List.length_map] at hfew
    have HP := Lib.hid hP
    clear hP hcf hcs
    gi_wp2_with fail
    refine ⟨trivial, ?_⟩
    refine (callsIn_wide.2 (records_Get _ _ _ (by omega) (by omega))).mono ?_
    rintro e w1 ⟨rfl, hb1⟩
    have hJ1 : J pre w1 := hJ pre wr w1 none hJs (below_grown hb1) (by simp)
    rcases hg : gOk (lb s) (a : Int) with _ | _
    · have hst := HP.out.1.stop hg
      have Hst := Lib.hid hst
      clear hg hst hY
      gi_wp2
      refine ⟨fun _ h => (by cases h), ?_⟩
      gi_wp2
      refine bodyPost_ret (results_none rfl _ _ _) rfl ?_
      exact ⟨⟨_, rfl⟩, .inl ⟨pre, ⟨Hst.out.1, by rw [Hst.out.2, HP.out.2]⟩, hJ1⟩⟩
    · have hst := HP.out.1.step hg
      obtain ⟨m, hm⟩ : ∃ m, m = gN (lb s) (a : Int) := ⟨_, rfl⟩
      rw [← hm] at hst
      rw [← hm]
      have hml := hst.1.le
      rw [length_lb] at hml
      have hm12 := hst.2
      obtain ⟨fn, tmps, assign, body, hy, hR⟩ := hY pre (a, m) w1 hJ1 (by omega)
      dsimp only at hy
      have Hst := Lib.hid hst
      clear hg hst hm hY
      gi_wp2
      refine hR.mono ?_
      rintro e W3 (⟨rfl, hJ3, hk3⟩ | ⟨rfl, hJx3⟩)
      · have hbx3 : Boxed W3 Bs 9 (.string s) := Eq.trans hk3 ((hb1.block Bs hbx.lt).trans hbx)
        gi_wp2
        go_roundw
        case rel => exact ⟨pre ++ [(a, m)], m, rfl, ⟨by rw [List.map_append]; exact Hst.out.1, by simp⟩, hbx3, hJ3⟩
        case measure => simp [intOf]; omega
      · gi_wp2
        refine bodyPost_ret (results_none rfl _ _ _) rfl ?_
        exact ⟨⟨_, rfl⟩, .inr ⟨pre ++ [(a, m)], trivial, hJx3⟩⟩

theorem rec_stops (n : Nat) (hn : 1 ≤ n) (Bs Bf : Nat) (s : ByteArray) (f : Nat) (hs : s.size ≤ 1000000000000) (hf : f ≤ s.size) (w : World)
    (hBs : Boxed w Bs 9 (.string s)) (hBf : Boxed w Bf 3 (.int .i64 (f : Int))) :
    SeqStopsK Fence.wide n Try.prog 49 #[.pointer (some ⟨Bf, 0, none⟩), .pointer (some ⟨Bs, 0, none⟩)] (fun x : Nat × Nat => #[Value.int .i64 ((x.1 : Nat) : Int), .int .i64 ((x.2 : Nat) : Int)]) (KeepsBox Bs) (PairsDone (lb s) f) (fun _ => True) s.size w := fun l J Jx W hW hJ _ hY h0 =>
  rec_each1 n hn l Bs Bf s f hs hf J Jx W hJ hY ((hW.block Bs hBs.lt).trans hBs) ((hW.block Bf hBf.lt).trans hBf) h0
end Go.Proofs.Ytjcdkekmploelaa
