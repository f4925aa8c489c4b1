/-
  Rows.ChunksRowSaid.
-/
import Derived.Test.YtjcdkekmploelaaChunked
import Derived.Test.YtjcdkekmploelaaOpenStrings
namespace Go.Proofs.Ytjcdkekmploelaa
open Go.RowKit
set_option linter.unusedVariables false

set_option maxHeartbeats 2000000 in
theorem ChunksRow_walk (v : Value) (ss : List ByteArray) (n : Int) (b : ByteArray) (w : World) (hv : Strs w v ss) (hn : 0 ≤ n ∧ n ≤ 255) (hb : b.size ≤ maxLen) :
    Calls Try.prog 11 #[v, .int .u8 n, .string b] w fun e w' => e = .returned (.bool true) ∧ Below w.heap.size w w' := by
  obtain ⟨p, rfl⟩ := Int.eq_ofNat_of_zero_le hn.1
  have hp : (p : Int) ≤ 255 := hn.2
  clear hn
  unfold maxLen at hb
  have hp' : p ≤ 255 := by omega
  obtain ⟨m, hm⟩ : ∃ m, m = p % 200 := ⟨_, rfl⟩
  have hm1 : m ≤ 199 := by omega
  have hm2 : (p : Int) % 200 = (m : Int) := by rw [hm, Int.natCast_emod]; congr 1
  obtain ⟨q, hq⟩ : ∃ q, q = p % 13 := ⟨_, rfl⟩
  have hq1 : q ≤ 12 := by omega
  have hq2 : (p : Int) % 13 = (q : Int) := by rw [hq, Int.natCast_emod]; congr 1
  have hH := fun w => ref_Head (m : Int) w (by omega)
  have hHl := headL_length hm1
  generalize headL (m : Int) = H at hH hHl
  have hR := fun w h1 h2 => law_Row (bs H) v ss w h1 h2
  have HR := Lib.hid hR
  obtain ⟨hrv, hsz⟩ := id hv
  obtain ⟨A, c, rfl, hc1, hc2, -, -⟩ := id hrv
  unfold maxLen at hc2
  have HH := Lib.hid hH
  clear hR hH hm hq
  go_enter Try.func11, Try.ntmps11
  go_wp2_with fail
  refine (HH.out _).mono ?_
  rintro e w0 ⟨rfl, hb0⟩
  go_wp2_with fail
  refine (HR.out _ (by rw [size_bs, hHl]; decide) ⟨hrv.next hb0, hsz⟩).mono ?_
  rintro e w1 ⟨hb1, rfl | ⟨hok, v1, rfl, hr1⟩⟩
  · go_wp2_with fail
    refine (law_chunked _).mono ?_
    rintro e w2 ⟨rfl, hb2⟩
    go_wp2
    go_ret
    refine ⟨rfl, ?_⟩
    repeat (first | assumption | exact Below.refl _ _ | (refine below_chain (by assumption) ?_))
  · obtain ⟨ho1, ho2, ho3⟩ := hok
    have hSl : (rowL (lb (bs H)) (ss.map lb)).length ≤ 30000 := by
      have := rowL_size (bs H) ss ss.length (by rw [List.take_length]; exact ho3) (Nat.le_refl _)
      rw [List.take_length] at this; omega
    have hS12 : 12 ≤ (rowL (lb (bs H)) (ss.map lb)).length := by
      have := posL_ge (lb (bs H)) (ss.map lb) (ss.map lb).length
      rw [posL_end, length_lb, size_bs, hHl] at this; exact this
    generalize rowL (lb (bs H)) (ss.map lb) = S at hSl hS12 ⊢
    by_cases hbs : b.size ≤ 100
    · have hbd : decide ((100 : Int) < b.size) = false := by rw [decide_eq_false_iff_not]; omega
      have hbI : (b.size : Int) ≤ 100 := by omega
      clear hr1 ho1 ho3
      have hXs : (bs S ++ b).size ≤ 1000000 := by rw [ByteArray.size_append, size_bs]; omega
      have HXs := Lib.hid hXs
      have x0 : ∀ (a b c d : Int) (w : World), (Instr.index 48 (.agg #[.int .i64 a, .int .i64 b, .int .i64 c, .int .i64 d]) (.int .i64 0)).run Try.prog w = .ok (.int .i64 a) w := fun _ _ _ _ _ => by kernel_rfl
      have x1 : ∀ (a b c d : Int) (w : World), (Instr.index 48 (.agg #[.int .i64 a, .int .i64 b, .int .i64 c, .int .i64 d]) (.int .i64 1)).run Try.prog w = .ok (.int .i64 b) w := fun _ _ _ _ _ => by kernel_rfl
      have x2 : ∀ (a b c d : Int) (w : World), (Instr.index 48 (.agg #[.int .i64 a, .int .i64 b, .int .i64 c, .int .i64 d]) (.int .i64 2)).run Try.prog w = .ok (.int .i64 c) w := fun _ _ _ _ _ => by kernel_rfl
      have x3 : ∀ (a b c d : Int) (w : World), (Instr.index 48 (.agg #[.int .i64 a, .int .i64 b, .int .i64 c, .int .i64 d]) (.int .i64 3)).run Try.prog w = .ok (.int .i64 d) w := fun _ _ _ _ _ => by kernel_rfl
      clear hXs
      have hmI : (m : Int) ≤ 199 := by omega
      rcases (show (0 : Int) ≤ (S.length : Int) + b.size - 7 * b.size ∨ (S.length : Int) + b.size - 7 * b.size < 0 from by omega) with hmx | hmx
      all_goals
        go_wp2
        try simp only [hq2, hm2]
        go_loopw [57] (fun i wr => ∃ t : Nat, t ≤ 4 ∧ i = .int .i64 t ∧ Below w1.heap.size w1 wr) (fun i _ => 4 - (intOf i).toNat)
        case atStart => exact ⟨0, by omega, rfl, Below.refl _ _⟩
        case round =>
          obtain ⟨t, ht, rfl, hbr⟩ := hrel
          rcases (show t = 0 ∨ t = 1 ∨ t = 2 ∨ t = 3 ∨ t = 4 from by omega) with rfl | rfl | rfl | rfl | rfl
          case inr.inr.inr.inr =>
            go_wp2_with fail
            refine (law_chunked _).mono ?_
            rintro e w2 ⟨rfl, hb2⟩
            go_wp2
            go_ret
            exact ⟨rfl, below_chain hb0 (below_chain hb1 (below_more hbr hb2 (Nat.le_refl _)))⟩
          all_goals
            go_wp2_with fail
            refine Calls.mono (chunks_Scan _ _ _ ?_ ?_) ?_
            · first | decide | (have := HXs.out; rw [bs_extract, size_bs, List.length_take, List.length_drop, length_lb]; omega)
            · omega
            rintro e w2 ⟨v2, rfl, hr2, hb2⟩
            go_wp2_with fail
            refine Calls.mono (ref_Scan _ _ _ ?_ ?_) ?_
            · first | decide | (have := HXs.out; rw [bs_extract, size_bs, List.length_take, List.length_drop, length_lb]; omega)
            · omega
            rintro e w3 ⟨v3, rfl, hr3, hb3⟩
            go_wp2_with fail
            refine (ex_Ints _ _ _ _ true _ (ints_nats _ (hr2.next hb3)) (ints_nats _ hr3) (by simp)).mono ?_
            rintro e w4 ⟨rfl, hb4⟩
            go_wp2
            go_roundw
            case rel =>
              have hbw := below_more (below_more (below_more hbr hb2 (Nat.le_refl _)) hb3 (Nat.le_refl _)) hb4 (Nat.le_refl _)
              first | exact ⟨1, by omega, by rfl, hbw⟩ | exact ⟨2, by omega, by rfl, hbw⟩ | exact ⟨3, by omega, by rfl, hbw⟩ | exact ⟨4, by omega, by rfl, hbw⟩
            case measure => simp [intOf]
    · have hbd : decide ((100 : Int) < b.size) = true := by rw [decide_eq_true_iff]; omega
      go_wp2_with fail
      refine (law_chunked _).mono ?_
      rintro e w2 ⟨rfl, hb2⟩
      go_wp2
      go_ret
      refine ⟨rfl, ?_⟩
      repeat (first | assumption | exact Below.refl _ _ | (refine below_chain (by assumption) ?_))
end Go.Proofs.Ytjcdkekmploelaa
