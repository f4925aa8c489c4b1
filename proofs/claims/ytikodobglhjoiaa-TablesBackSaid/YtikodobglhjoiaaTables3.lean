/-
  TABLES: the program's Put.
-/
import Derived.Test.YtikodobglhjoiaaTables2
import Derived.Test.YtikodobglhjoiaaBytes
import Derived.Test.YtikodobglhjoiaaEntRange
namespace Go.Proofs.Ytikodobglhjoiaa
open Go.RowKit
set_option linter.unusedVariables false

theorem infoByteT : (Try.prog.info? 5).map (fun i => (i.zero, i.size, i.bytes)) = some (some (.int .u8 0), 1, 1) := by kernel_rfl
theorem head_bs (n : Nat) : (⟨#[112, 116, 97, 98]⟩ : ByteArray) ++ bs (be 4 n) = bs (headT n) := by
  have : (⟨#[112, 116, 97, 98]⟩ : ByteArray) = bs [112, 116, 97, 98] := rfl
  rw [this, bs_append]; rfl

set_option maxHeartbeats 1000000 in
theorem tables_Put (v : Value) (l : List Ent) (w : World) (hl : Ents w v l) (hn : l.length ≤ 1000000) :
    Calls Try.prog 43 #[v] w fun e w' => e = .returned (.tuple #[.string (bs (putT l)), .int .i64 (errT l)]) ∧ Below w.heap.size w w' := by
  obtain ⟨⟨A, c, rfl, -, -, -, -⟩, -⟩ := id hl
  obtain ⟨-, hc1, hc2, -⟩ := hl.cells
  unfold maxLen at hc2
  obtain ⟨i0, hi0, hz0, hz1, hz2⟩ := info_parts infoByteT
  have hlater := fun h0 => hl.later h0
  have hok := fun (i : Nat) (e : Ent) (hi : l[i]? = some e) => hl.ok hi
  obtain ⟨n, hN⟩ : ∃ n, n = l.length := ⟨_, rfl⟩
  rw [← hN] at hc1 hn
  rw [← hN] at hl ⊢
  have Hn := Lib.hid hN
  have Hl := Lib.hid hl
  have Hok := Lib.hid hok
  have Hlater := Lib.hid hlater
  clear hN hl hok hlater
  have wn : IntKind.u64.wrap (n : Int) = (n : Int) := by rw [IntKind.wrap_u64]; omega
  go_enter Try.func43, Try.ntmps43
  go_wp2_with fail
  refine (entries_Sorted _ l w Hl.out).mono ?_
  rintro e w0 ⟨rfl, hb0⟩
  rcases hs : sortedE l with _ | _
  · have hno : mayT l = false := by unfold mayT; rw [hs]; rfl
    go_wp2
    refine bodyPost_ret (v := .tuple #[.string (⟨#[]⟩ : ByteArray), .int .i64 2]) (by simp [results, Try.results43, go_sem]) rfl ⟨ret_sI (by unfold putT; rw [hno]; rfl) (by unfold errT; rw [hno]; rfl) _, hb0⟩
  · have Hs := Lib.hid hs
    go_wp2_with fail
    refine (nums_Put4 n _ (by omega)).mono ?_
    rintro e w1 ⟨rfl, hb1⟩
    obtain ⟨w2, cap, hcv, hB, hb2⟩ := BytesOwn.ofString (P := Try.prog) w1 9 45 5 ((⟨#[112, 116, 97, 98]⟩ : ByteArray) ++ bs (be 4 n)) (by rw [head_bs, size_bs]; simp [headT]) Try.underlying9 Try.underlying45 Try.underlying5
    have hw2 := below_chain hb0 (below_chain hb1 hb2)
    have hB2 : BytesOwn w2 w1.heap.size cap (headT n) := by rw [head_bs, lb_bs] at hB; exact hB
    have hg : w.heap.size ≤ w1.heap.size := Nat.le_trans hb0.size hb1.size
    have hsz8 : ((⟨#[112, 116, 97, 98]⟩ : ByteArray) ++ bs (be 4 n)).size = 8 := by rw [head_bs, size_bs]; rfl
    rw [hsz8] at hcv
    clear hB
    go_wp2_with fail
    clear hcv
    go_loopw [4, 19] (fun b i wr => ∃ k g2 cap2 N : Nat, k ≤ n ∧ i = .int .i64 (k : Int) ∧ b = .slice (some ⟨g2, 0, none⟩) N cap2 ∧ BytesOwn wr g2 cap2 (headT n ++ bodyT (l.take k)) ∧ (headT n ++ bodyT (l.take k)).length = N ∧ (l.take k).all mayE = true ∧ w.heap.size ≤ g2 ∧ Below w.heap.size w wr) (fun _ i _ => n - (intOf i).toNat)
    case atStart => exact ⟨0, w1.heap.size, cap, 8, by omega, rfl, rfl, by simpa [bodyT] using hB2, by simp [headT, bodyT], by simp, hg, hw2⟩
    case round =>
      obtain ⟨k, g2, cap2, N, hk, rfl, rfl, hB, hN, hall, hg2, hbr⟩ := hrel
      have Hall := Lib.hid hall
      have HB := Lib.hid hB
      have hN8 : N ≤ 100000000 := by
        have h1 := length_bodyT hall
        rw [List.length_append, h1] at hN
        simp [headT] at hN; omega
      have HN := Lib.hid hN
      clear hall hB hN
      by_cases hlt : k < n
      · obtain ⟨e, he⟩ : ∃ e, l[k]? = some e := ⟨_, List.getElem?_eq_getElem (by rw [← Hn.out]; exact hlt)⟩
        have oe := Hok.out k e he
        have hb := bodyT_succ he
        have ha := all_take_succ he
        have hmem := List.mem_of_getElem? he
        obtain ⟨b, off, rfl, -, hc⟩ := Hlater.out (by rw [← Hn.out]; omega)
        obtain ⟨c0, c1, c2⟩ := hc k e he wr hbr
        have hp := fun w => entries_Put e w oe
        have i1 : (k : Int) < n := by omega
        have Hb := Lib.hid hb
        have Ha := Lib.hid ha
        have Hmem := Lib.hid hmem
        clear he hc hb ha hmem
        have k1 := below_lit wr (.cells (entC e) 25)
        unfold entC at k1 hp
        rcases hm : mayE e with _ | _
        · have hno := mayT_no Hmem.out hm
          rw [putEnt_no hm] at hp
          go_wp2_with fail
          refine (hp _).mono ?_
          rintro x w3 ⟨rfl, hb3⟩
          go_wp2
          refine bodyPost_ret (v := .tuple #[.string (⟨#[]⟩ : ByteArray), .int .i64 2]) (by simp [results, Try.results43, go_sem]) rfl ⟨ret_sI (by unfold putT; rw [hno]; rfl) (by unfold errT; rw [hno]; rfl) _, below_more hbr (below_chain k1 hb3) (Nat.le_refl _)⟩
        · have hl24 := putEnt_length hm
          have Hm := Lib.hid hm
          generalize hx : putEnt e = x at hp hl24
          have Hx := Lib.hid hx
          have hsx : (bs x).size = 24 := by rw [size_bs]; exact hl24
          clear hx hm
          go_wp2_with fail
          refine (hp _).mono ?_
          rintro y w3 ⟨rfl, hb3⟩
          have k13 := below_chain k1 hb3
          have hB3 := HB.out.next k13
          have hbw := below_more hbr k13 (Nat.le_refl _)
          go_wp2_with (first
            | (at_builtin; refine wpList_append_bytes _ rfl _ _ 45 9 rfl rfl hB3 HN.out (bs x) rfl Try.underlying45 Try.underlying9 hi0 hz0 hz1 hz2 rfl w.heap.size hg2 hbw.size (by rw [hsx]; omega) ?_; intro g3 cap3 w4 hB4 hg3 hb4))
          go_wp2
          go_roundw
          case rel => exact ⟨k + 1, g3, cap3, N + 24, by omega, by go_num, rfl, by rw [Hb.out, Hx.out, ← List.append_assoc]; rw [lb_bs] at hB4; exact hB4, by rw [Hb.out, Hx.out, ← List.append_assoc, List.length_append, HN.out, hl24], by rw [Ha.out, Hall.out, Hm.out]; rfl, hg3, hbw.trans hb4⟩
          case measure => simp [intOf]; omega
      · obtain rfl : k = n := by omega
        have i1 : ¬ (k : Int) < k := by omega
        have htk : l.take k = l := List.take_of_length_le (by rw [← Hn.out]; exact Nat.le_refl _)
        have hraw : headT k ++ bodyT (l.take k) = rawT l := by rw [htk]; unfold rawT; rw [← Hn.out]
        have hyes : mayT l = true := by
          have h1 := Hall.out
          rw [htk] at h1
          unfold mayT
          rw [h1, Hs.out]; rfl
        have hBr := HB.out
        have hNr := HN.out
        rw [hraw] at hBr hNr
        have hcv2 : (convert 45 9 (.slice (some ⟨g2, 0, none⟩) N cap2)).run Try.prog wr = .ok (.string (bs (rawT l))) wr := hBr.conv hNr Try.underlying45 Try.underlying5 Try.underlying9
        clear hraw htk hBr
        go_wp2_with fail
        refine (sums_Seal _ _ (by rw [size_bs, hNr]; omega)).mono ?_
        rintro x w3 ⟨rfl, hb3⟩
        rw [lb_bs]
        go_wp2
        refine bodyPost_ret (v := .tuple #[.string (bs (sealL (rawT l))), .int .i64 0]) (by simp [results, Try.results43, go_sem]) rfl ⟨ret_sI (by unfold putT; rw [hyes]; rfl) (by unfold errT; rw [hyes]; rfl) _, below_more hbr hb3 (Nat.le_refl _)⟩
end Go.Proofs.Ytikodobglhjoiaa
