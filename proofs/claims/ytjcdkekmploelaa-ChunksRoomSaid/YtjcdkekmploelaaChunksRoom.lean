/-
  Rows.ChunksRoomSaid: behind a head any payload fits that a record may have; a chunk that is filled with what fits is never longer than it may be.
-/
import Derived.Test.YtjcdkekmploelaaChunked
import Derived.Test.YtjcdkekmploelaaRecordsEnds
import Derived.Test.YtjcdkekmploelaaMade
import Derived.ChangeSlices
import Derived.OpenShut
namespace Go.Proofs.Ytjcdkekmploelaa
open Go.RowKit Go.ChangeShapes Go.WideShapes
set_option linter.unusedVariables false

def shortsC (l : List Nat) : List Value := l.map fun n : Nat => .int .u16 (n : Int)
@[simp, go_sem] theorem length_shortsC (l : List Nat) : (shortsC l).length = l.length := by simp [shortsC]
def Shorts (w : World) (v : Value) (l : List Nat) : Prop := Reads w v 1 l.length (shortsC l) ∧ ∀ n ∈ l, n ≤ 65535
theorem cells_u16 : Try.prog.cellsOf 29 = 1 := by kernel_rfl
theorem open_SliceOfuint16 {H : Type} {enc : TypeId × Value → H} {W : World} {base : Nat} {v : Value} {d : DataW H} {p : List MemPlace} (hval : Value.okWide Try.prog W .any base 54 v) (h : DataW.Trod enc Try.prog W 0 (fun _ => true) true 54 v d p) :
    ∃ l : List Nat, Shorts W v l := by
  obtain ⟨a0, len, cap, rfl⟩ := okWide_slice Try.underlying54 hval
  obtain ⟨fuel, hf⟩ := h
  rcases open_ints Try.underlying54 Try.underlying29 cells_u16 hf with ⟨hcs, hx⟩ | ⟨a, len', cap', zs, hcs, _, hl, hm, hz, hx, hcell, hwf⟩
  · simp [Value.cells] at hcs
    obtain ⟨rfl, rfl, rfl⟩ := hcs
    exact ⟨[], Reads.nil _ _, by simp⟩
  · simp [Value.cells] at hcs
    obtain ⟨rfl, rfl, rfl⟩ := hcs
    simp only [if_true] at hz
    have hb : ∀ z ∈ zs, 0 ≤ z ∧ z ≤ 65535 := fun z hz => bounds_u16 (hwf z hz)
    have hlen : ((zs.take len).map Int.toNat).length = len := by simp; omega
    refine ⟨(zs.take len).map Int.toNat, ?_, ?_⟩
    · rw [hlen]
      refine Reads.of_cells hl hm (by simp [shortsC]; omega) (fun i hi => ?_)
      simp [shortsC] at hi
      have := hcell i (by omega)
      rw [this]
      have h0 := hb zs[i] (List.getElem_mem (by omega))
      simp [shortsC, List.getD, List.getElem?_eq_getElem (show i < zs.length by omega)]
      omega
    · intro n hn
      obtain ⟨z, hz, rfl⟩ := List.mem_map.1 hn
      have := hb z (List.mem_of_mem_take hz)
      omega

set_option maxHeartbeats 2000000 in
theorem ChunksRoom_walk (v : Value) (l : List Nat) (w : World) (hv : Shorts w v l) :
    Calls Try.prog 15 #[v] w fun e w' => e = .returned (.bool true) ∧ Below w.heap.size w w' := by
  obtain ⟨hr, hsm⟩ := hv
  obtain ⟨A, c, rfl, hc1, hc2, -, -⟩ := id hr
  unfold maxLen at hc2
  by_cases h : l.length ≤ 60
  · have h' : ¬ (60 : Int) < l.length := by omega
    obtain ⟨i0, hi0, hz0, hz1, hz2⟩ := info_parts infoByte
    have hH := chunks_Head 0 w (by decide)
    have hHl : (headL 0).length = 12 := headL_length (n := 0) (by omega)
    generalize headL 0 = H at hH hHl
    have hF : ∀ (Z : List UInt8) (w : World), Z.length = 2000 → Calls Try.prog 30 #[.int .i64 12, .string (bs Z)] w fun e w' => e = .returned (.bool true) ∧ w = w' := fun Z w h => ex_Fits 12 _ 2000 true w (by decide) (by rw [size_bs]; exact h) (by decide) (by decide)
    have HF := Lib.hid hF
    have HH := Lib.hid hH
    have Hsm := Lib.hid hsm
    clear hF hH hsm
    go_enter Try.func15, Try.ntmps15
    go_wp2_with fail
    refine (HH.out).mono ?_
    rintro e w1 ⟨rfl, hb1⟩
    obtain ⟨w3, Z, hmk, hcv, hZl, hb3⟩ := make_zeros w1 2000 (by decide)
    have hmk' : (Instr.makeSlice 42 (.int .i64 2000) (.int .i64 2000)).run Try.prog w1 = .ok (.slice (some ⟨w1.heap.size, 0, none⟩) 2000 2000) w3 := hmk
    clear hmk
    go_wp2_with fail
    refine (HF.out _ _ hZl).mono ?_
    rintro e w' ⟨rfl, rfl⟩
    go_wp2_with fail
    have hbw3 := below_chain hb1 hb3
    clear hcv hmk'
    go_loopw [3, 4] (fun sz i wr => ∃ (k s : Nat), k ≤ l.length ∧ i = .int .i64 k ∧ sz = .int .i64 s ∧ s ≤ 4096 ∧ Below w.heap.size w wr) (fun _ i _ => l.length - (intOf i).toNat)
    case atStart => exact ⟨0, 12, by omega, rfl, rfl, by omega, hbw3⟩
    case round =>
      obtain ⟨k, s, hk, rfl, rfl, hs, hbr⟩ := hrel
      by_cases hlt : k < l.length
      · obtain ⟨b, off, rfl, -, -, -, hcell⟩ := hr.at_ (by omega)
        have hc0 : wr.cell? ⟨b, off + k, none⟩ = some (.int .u16 (l[k] : Nat)) := (hcell wr hbr k (by simp; omega)).trans (by simp [shortsC])
        have hxl := Hsm.out l[k] (List.getElem_mem hlt)
        generalize l[k] = x at hc0 hxl
        obtain ⟨q, hq⟩ : ∃ q, q = x % 2100 := ⟨_, rfl⟩
        have hq1 : q ≤ 2099 := by omega
        have hq2 : (x : Int) % 2100 = (q : Int) := by rw [hq, Int.natCast_emod]; congr 1
        have i1 : (k : Int) < l.length := by omega
        have i2 : (x : Int) ≤ 65535 := by omega
        have i3 : (q : Int) ≤ 2099 := by omega
        have i4 : (s : Int) ≤ 4096 := by omega
        obtain ⟨w4, Y, hmk, hcv, hYl, hb4⟩ := make_zeros wr q (by omega)
        clear hq hcell
        go_wp2_with fail
        have hys : (bs Y).size = q := by rw [size_bs]; exact hYl
        have hbw4 := below_more hbr hb4 (Nat.le_refl _)
        clear hmk hcv
        by_cases hq : q ≤ 2000
        · have dq : decide ((q : Int) ≤ 2000) = true := by rw [decide_eq_true_iff]; omega
          by_cases hf : s + q + 12 ≤ 4096
          · have df : decide ((s : Int) + q + 12 ≤ 4096) = true := by rw [decide_eq_true_iff]; omega
            have eF : fitsB s q = true := by unfold fitsB; rw [decide_eq_true_iff]; omega
            have e1 : putR (lb (bs Y)) = recL Y := by unfold putR; rw [if_neg (by rw [lb_bs]; omega), lb_bs]
            have e2 : putE (lb (bs Y)) = 0 := by unfold putE; rw [if_neg (by rw [lb_bs]; omega)]
            have hrl : (recL Y).length = q + 12 := by rw [length_recL, hYl]
            have E1 := Lib.hid e1
            have E2 := Lib.hid e2
            have Hys := Lib.hid hys
            clear e1 e2 hys
            refine (ex_Fits _ _ q true _ (by omega) Hys.out (by omega) eF).mono ?_
            rintro e w' ⟨rfl, rfl⟩
            go_wp2_with fail
            refine (records_Put _ _ (by have := Hys.out; omega)).mono ?_
            rintro e w5 ⟨rfl, hb5⟩
            rw [E1.out, E2.out]
            generalize recL Y = T at hrl
            go_wp2
            go_roundw
            case rel => exact ⟨k + 1, s + (q + 12), by omega, by go_num, by go_num, by omega, below_more hbw4 hb5 (Nat.le_refl _)⟩
            case measure => simp [intOf]; omega
          · have df : decide ((s : Int) + q + 12 ≤ 4096) = false := by rw [decide_eq_false_iff_not]; omega
            have eF : fitsB s q = false := by unfold fitsB; rw [decide_eq_false_iff_not]; omega
            refine (ex_Fits _ _ q false _ (by omega) hys (by omega) eF).mono ?_
            rintro e w' ⟨rfl, rfl⟩
            go_wp2
            go_roundw
            case rel => exact ⟨k + 1, s, by omega, by go_num, rfl, hs, hbw4⟩
            case measure => simp [intOf]; omega
        · have dq : decide ((q : Int) ≤ 2000) = false := by rw [decide_eq_false_iff_not]; omega
          have eF : fitsB s q = false := by unfold fitsB; rw [decide_eq_false_iff_not]; omega
          refine (ex_Fits _ _ q false _ (by omega) hys (by omega) eF).mono ?_
          rintro e w' ⟨rfl, rfl⟩
          go_wp2
          go_roundw
          case rel => exact ⟨k + 1, s, by omega, by go_num, rfl, hs, hbw4⟩
          case measure => simp [intOf]; omega
      · obtain rfl : k = l.length := by omega
        have i4 : decide ((s : Int) ≤ 4096) = true := by rw [decide_eq_true_iff]; omega
        go_wp2_with fail
        refine (law_chunked _).mono ?_
        rintro e w5 ⟨rfl, hb5⟩
        go_wp2
        go_ret
        exact ⟨rfl, below_more hbr hb5 (Nat.le_refl _)⟩
  · have h' : (60 : Int) < l.length := by omega
    go_enter Try.func15, Try.ntmps15
    go_wp2_with fail
    refine (law_chunked _).mono ?_
    rintro e w1 ⟨rfl, hb1⟩
    go_wp2
    go_ret
    exact ⟨rfl, hb1⟩
end Go.Proofs.Ytjcdkekmploelaa
