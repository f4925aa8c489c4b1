/-
  The reference's Whole by its contract.
-/
import Derived.Test.YtjcdkekmploelaaRecords2
import Derived.Test.YtjcdkekmploelaaInts
namespace Go.Proofs.Ytjcdkekmploelaa
open Go.RowKit
set_option linter.unusedVariables false

theorem infoInt : (Try.prog.info? 3).map (fun i => (i.zero, i.size, i.bytes)) = some (some (.int .i64 0), 1, 8) := by kernel_rfl
theorem cell_one (w : World) (v : Value) (e : TypeId) : ∀ j u, ([v] : List Value)[j]? = some u → (w.alloc (.cells #[v] e)).cell? ((Addr.mk w.heap.size 0 none).add j) = some u := by
  intro j u hj
  match j, hj with
  | 0, hj => simp at hj; subst hj; simp [Addr.add]
def natsC (l : List Nat) : List Value := intsC (l.map (fun n : Nat => (n : Int)))
@[simp, go_sem] theorem length_natsC (l : List Nat) : (natsC l).length = l.length := by simp [natsC]
theorem natsC_snoc (l : List Nat) (a : Nat) : natsC (l ++ [a]) = natsC l ++ [.int .i64 (a : Int)] := by simp [natsC, intsC]
/-- What has been gathered, and what is to come. -/
structure WholeAt (l : List UInt8) (from_ : Int) (pre : List Nat) (a : Nat) : Prop where
  le : a ≤ l.length
  few : 12 * pre.length ≤ a
  ats : wAt l from_ = pre ++ (wholeL l l.length a).1
  end_ : wEnd l from_ = (wholeL l l.length a).2
theorem WholeAt.start (l : List UInt8) (a : Nat) (h : a ≤ l.length) : WholeAt l (a : Int) [] a := by
  refine ⟨h, by simp, ?_, ?_⟩
  · unfold wAt; rw [if_neg (by omega)]; rfl
  · unfold wEnd; rw [if_neg (by omega)]; rfl
theorem WholeAt.step {l : List UInt8} {f : Int} {pre : List Nat} {a : Nat} (h : WholeAt l f pre a) (hg : gOk l (a : Int) = true) : WholeAt l f (pre ++ [a]) (gN l (a : Int)) ∧ a + 12 ≤ gN l (a : Int) := by
  have hr : recAt l a = true := by
    unfold gOk at hg
    rw [decide_eq_true (by omega : (0 : Int) ≤ (a : Int)), Bool.true_and, Int.toNat_natCast] at hg
    exact hg
  have hb := recAt_bounds hr
  have e : gN l (a : Int) = a + numAt l a + 12 := by unfold gN; rw [hg, if_pos rfl, Int.toNat_natCast]
  rw [e]
  refine ⟨⟨hb.2.2, by have := h.few; simp; omega, ?_, ?_⟩, by omega⟩
  · rw [h.ats, wholeL_go hr]; simp
  · rw [h.end_, wholeL_go hr]
theorem WholeAt.stop {l : List UInt8} {f : Int} {pre : List Nat} {a : Nat} (h : WholeAt l f pre a) (hg : gOk l (a : Int) = false) : wAt l f = pre ∧ wEnd l f = a := by
  have hr : recAt l a = false := by
    unfold gOk at hg
    rw [decide_eq_true (by omega : (0 : Int) ≤ (a : Int)), Bool.true_and, Int.toNat_natCast] at hg
    exact hg
  refine ⟨?_, ?_⟩
  · rw [h.ats, wholeL_stop hr]; simp
  · rw [h.end_, wholeL_stop hr]

/-- What Whole tells: a list of its own, and where the records end. -/
def WholeTold (l : List UInt8) (f : Int) (w : World) (e : Ending) (w' : World) : Prop :=
  ∃ v, e = .returned (.tuple #[v, .int .i64 (wEnd l f)]) ∧ Reads w' v 1 (wAt l f).length (natsC (wAt l f)) ∧ Below w.heap.size w w'

set_option maxHeartbeats 1000000 in
theorem ref_Whole (s : ByteArray) (a : Int) (w : World) (hs : s.size ≤ 1000000000000) (ha : -9223372036854775808 ≤ a ∧ a ≤ 9223372036854775807) :
    Calls Try.prog 38 #[.string s, .int .i64 a] w (WholeTold (lb s) a w) := by
  obtain ⟨ha1, ha2⟩ := ha
  by_cases hsh : a < 0 ∨ (s.size : Int) < a
  · have h1 : wAt (lb s) a = [] := by unfold wAt; rw [if_pos (by rw [length_lb]; exact hsh)]
    have h2 : wEnd (lb s) a = 0 := by unfold wEnd; rw [if_pos (by rw [length_lb]; exact hsh)]
    have H1 := Lib.hid h1
    have H2 := Lib.hid h2
    clear h1 h2
    rcases (show a < 0 ∨ (¬ a < 0 ∧ (s.size : Int) < a) from by omega) with h | ⟨h, h'⟩
    all_goals
      clear hsh
      go_enter Try.func38, Try.ntmps38
      go_wp2
      go_ret2
      refine ⟨_, ret_vi (by rw [H2.out]; rfl), ?_, Below.refl _ _⟩
      rw [H1.out]; exact Reads.nil _ _
  · obtain ⟨k, rfl⟩ := Int.eq_ofNat_of_zero_le (a := a) (by omega)
    have hW := WholeAt.start (lb s) k (by rw [length_lb]; omega)
    have hk1 : decide (s.size < k) = false := by rw [decide_eq_false_iff_not]; omega
    have hk0 : decide ((k : Int) < 0) = false := by rw [decide_eq_false_iff_not]; omega
    obtain ⟨i0, hi0, hz0, hz1, hz2⟩ := info_parts infoInt
    have HW := Lib.hid hW
    clear hW hsh
    go_enter Try.func38, Try.ntmps38
    go_wp2
    go_loopw [1, 6] (fun f v wr => ∃ (pre : List Nat) (a : Nat), f = .int .i64 (a : Int) ∧ WholeAt (lb s) k pre a ∧ wr.ownsRow w.heap.size 3 1 v pre.length (natsC pre) ∧ Below w.heap.size w wr) (fun f _ _ => s.size - (intOf f).toNat)
    case atStart => exact ⟨[], k, rfl, HW.out, World.ownsRow_nil _ _ _ _, Below.refl _ _⟩
    case round =>
      obtain ⟨pre, a, rfl, hat, hown, hbr⟩ := hrel
      clear HW
      have ha := hat.le
      have hfew := hat.few
      rw [length_lb] at ha
      have Hat := Lib.hid hat
      clear hat
      go_wp2_with fail
      refine (ref_recGet _ _ _ (by omega) (by omega)).mono ?_
      rintro e w1 ⟨rfl, hb1⟩
      rcases hg : gOk (lb s) (a : Int) with _ | _
      · have hst := Hat.out.stop hg
        have Hst := Lib.hid hst
        clear hg hst
        go_wp2
        go_ret2
        refine ⟨_, ret_vi (by rw [Hst.out.2]), ?_, below_more hbr hb1 (Nat.le_refl _)⟩
        rw [Hst.out.1]; exact Reads.next (Reads.of_own hown) hb1
      · have hst := Hat.out.step hg
        obtain ⟨n, hn⟩ : ∃ n, n = gN (lb s) (a : Int) := ⟨_, rfl⟩
        rw [← hn] at hst
        have hn12 := hst.2
        have hnl := hst.1.le
        rw [length_lb] at hnl
        rw [← hn]
        have Hst := Lib.hid hst
        have hown1 := own_next hown hb1
        have hbw1 := below_more hbr hb1 (Nat.le_refl _)
        clear hg hst hn hown
        go_wp2_with (at_builtin; refine wpList_append_own _ rfl _ _ 30 rfl w.heap.size 3 i0 (.int .i64 0) 1 8 Try.underlying30 hi0 hz0 hz1 hz2 rfl (by decide) _ _ _ rfl (hown1.alloc _) ⟨w1.heap.size, 0, none⟩ 1 1 [.int .i64 (a : Int)] rfl rfl (cell_one _ _ _) (by intro u hu; simp at hu; subst hu; rfl) (by unfold maxLen; omega) (by omega) (by have := hbw1.size; simp; omega) ?_; intro v2 w2 hown2 hg2 _)
        have hbw2 : Below w.heap.size w w2 := (hbw1.alloc hbw1.size _).grown hg2 (by have := hbw1.size; simp; omega) (own_block_ge hown1)
        have hrow2 : w2.ownsRow w.heap.size 3 1 v2 (pre ++ [a]).length (natsC (pre ++ [a])) := by rw [natsC_snoc, List.length_append]; exact hown2
        clear hown2 hg2 hown1
        go_roundw
        case rel => exact ⟨pre ++ [a], n, rfl, Hst.out.1, hrow2, hbw2⟩
        case measure => simp [intOf]; omega
end Go.Proofs.Ytjcdkekmploelaa
