/-
  TABLES: the reference's Put.
-/
import Derived.Test.YtikodobglhjoiaaTables1
namespace Go.Proofs.Ytikodobglhjoiaa
open Go.RowKit
set_option linter.unusedVariables false

theorem putL_four (n : Nat) : putL n 4 = be 4 n := by unfold putL; rw [if_neg (by omega)]; rfl
theorem ref_Put4 (n : Nat) (w : World) (hn : n < 18446744073709551616) :
    Calls Try.prog 58 #[.int .u64 n, .int .i64 4] w fun e w' => e = .returned (.string (bs (be 4 n))) ∧ Below w.heap.size w w' := by
  have c := ref_Put n 4 w (by omega) (by omega)
  rw [Int.toNat_natCast, putL_four] at c
  exact c
theorem nums_Put4 (n : Nat) (w : World) (hn : n < 18446744073709551616) :
    Calls Try.prog 57 #[.int .u64 n, .int .i64 4] w fun e w' => e = .returned (.string (bs (be 4 n))) ∧ Below w.heap.size w w' := by
  have c := nums_Put n 4 w (by omega) (by omega)
  rw [Int.toNat_natCast, putL_four] at c
  exact c
theorem mayT_no {l : List Ent} {e : Ent} (he : e ∈ l) (hm : mayE e = false) : mayT l = false := by
  unfold mayT
  have : l.all mayE = false := by
    rw [List.all_eq_false]
    exact ⟨e, he, by simp [hm]⟩
  rw [this, Bool.and_false]

set_option maxHeartbeats 1000000 in
theorem ref_tPut (v : Value) (l : List Ent) (w : World) (hl : Ents w v l) (hn : l.length ≤ 1000000) :
    Calls Try.prog 44 #[v] w fun e w' => e = .returned (.tuple #[.string (bs (putT l)), .int .i64 (errT l)]) ∧ Below w.heap.size w w' := by
  obtain ⟨⟨A, c, rfl, -, -, -, -⟩, -⟩ := id hl
  obtain ⟨-, hc1, hc2, -⟩ := hl.cells
  unfold maxLen at hc2
  have hlater := fun h0 => hl.later h0
  have hok := fun (i : Nat) (e : Ent) (hi : l[i]? = some e) => hl.ok hi
  obtain ⟨n, hN⟩ : ∃ n, n = l.length := ⟨_, rfl⟩
  rw [← hN] at hc1 hn
  rw [← hN] at hl ⊢
  have Hn := Lib.hid hN
  have Hl := Lib.hid hl
  have Hok := Lib.hid hok
  have Hlater := Lib.hid hlater
  clear hN hl hok hlater
  have wn : IntKind.u64.wrap (n : Int) = (n : Int) := by rw [IntKind.wrap_u64]; omega
  go_enter Try.func44, Try.ntmps44
  go_wp2_with fail
  refine (ref_Put4 n _ (by omega)).mono ?_
  rintro e w1 ⟨rfl, hb1⟩
  go_wp2_with fail
  go_loopw [4, 5] (fun s i wr => ∃ k : Nat, k ≤ n ∧ i = .int .i64 (k : Int) ∧ s = .string (bs (headT n ++ bodyT (l.take k))) ∧ (l.take k).all mayE = true ∧ (k = 0 ∨ sortedE l = true) ∧ Below w.heap.size w wr) (fun _ i _ => n - (intOf i).toNat)
  case atStart => exact ⟨0, by omega, rfl, by first | rfl | (simp [headT, bodyT, bs]; rfl), by simp, .inl rfl, hb1⟩
  case round =>
    obtain ⟨k, hk, rfl, rfl, hall, hsr, hbr⟩ := hrel
    have Hall := Lib.hid hall
    have Hsr := Lib.hid hsr
    clear hall hsr
    by_cases hlt : k < n
    · obtain ⟨e, he⟩ : ∃ e, l[k]? = some e := ⟨_, List.getElem?_eq_getElem (by rw [← Hn.out]; exact hlt)⟩
      have oe := Hok.out k e he
      have hb := bodyT_succ he
      have ha := all_take_succ he
      have hmem := List.mem_of_getElem? he
      obtain ⟨b, off, rfl, -, hc⟩ := Hlater.out (by rw [← Hn.out]; omega)
      obtain ⟨c0, c1, c2⟩ := hc k e he wr hbr
      have hp := ref_entPut e wr oe
      have i1 : (k : Int) < n := by omega
      have Hb := Lib.hid hb
      have Ha := Lib.hid ha
      have Hmem := Lib.hid hmem
      clear he hc hb ha hmem
      have hLl : (headT n ++ bodyT (l.take k)).length ≤ 100000000 := by
        have h1 := length_bodyT Hall.out
        rw [List.length_append, h1]
        simp [headT]; omega
      generalize hL : headT n ++ bodyT (l.take k) = L at hLl ⊢
      have HL := Lib.hid hL
      clear hL
      rcases hm : mayE e with _ | _
      · have hno := mayT_no Hmem.out hm
        rw [putEnt_no hm] at hp
        go_wp2_with fail
        refine hp.mono ?_
        rintro x w2 ⟨rfl, hb2⟩
        go_wp2
        refine bodyPost_ret (v := .tuple #[.string (⟨#[]⟩ : ByteArray), .int .i64 2]) (by simp [results, Try.results44, go_sem]) rfl ⟨ret_sI (by unfold putT; rw [hno]; rfl) (by unfold errT; rw [hno]; rfl) _, below_more hbr hb2 (Nat.le_refl _)⟩
      · have hl24 := putEnt_length hm
        have Hm := Lib.hid hm
        generalize hx : putEnt e = x at hp hl24
        have Hx := Lib.hid hx
        have xne : (x == []) = false := by cases x; simp at hl24; rfl
        have xne2 : ¬ x = [] := by intro h; subst h; simp at hl24
        clear hx hm
        go_wp2_with fail
        refine hp.mono ?_
        rintro y w2 ⟨rfl, hb2⟩
        go_wp2_with fail
        refine (ref_Sorted _ l _ ((Hl.out.next hbr).next hb2)).mono ?_
        rintro y w3 ⟨rfl, hb3⟩
        have hbw := below_more (below_more hbr hb2 (Nat.le_refl _)) hb3 (Nat.le_refl _)
        rcases hs : sortedE l with _ | _
        · have hno : mayT l = false := by unfold mayT; rw [hs]; rfl
          go_wp2
          refine bodyPost_ret (v := .tuple #[.string (⟨#[]⟩ : ByteArray), .int .i64 2]) (by simp [results, Try.results44, go_sem]) rfl ⟨ret_sI (by unfold putT; rw [hno]; rfl) (by unfold errT; rw [hno]; rfl) _, hbw⟩
        · go_wp2
          go_roundw
          case rel => exact ⟨k + 1, by omega, by go_num, by rw [Hb.out, Hx.out, ← List.append_assoc, HL.out, bs_append], by rw [Ha.out, Hall.out, Hm.out]; rfl, .inr hs, hbw⟩
          case measure => simp [intOf]; omega
    · obtain rfl : k = n := by omega
      have i1 : ¬ (k : Int) < k := by omega
      have htk : l.take k = l := List.take_of_length_le (by rw [← Hn.out]; exact Nat.le_refl _)
      have hraw : headT k ++ bodyT (l.take k) = rawT l := by rw [htk]; unfold rawT; rw [← Hn.out]
      have hyes : mayT l = true := by
        have h1 := Hall.out
        rw [htk] at h1
        unfold mayT
        rw [h1, Bool.and_true]
        rcases Hsr.out with h | h
        · have : l = [] := List.eq_nil_of_length_eq_zero (by rw [← Hn.out]; exact h)
          rw [this]; rfl
        · exact h
      have hlen : (headT k ++ bodyT (l.take k)).length ≤ 100000000 := by
        have h1 := length_bodyT Hall.out
        rw [List.length_append, h1]
        simp [headT]; omega
      rw [hraw] at hlen ⊢
      clear hraw htk
      go_wp2_with fail
      refine (ref_Seal _ _ (by rw [size_bs]; omega)).mono ?_
      rintro x w2 ⟨rfl, hb2⟩
      rw [lb_bs]
      go_wp2
      refine bodyPost_ret (v := .tuple #[.string (bs (sealL (rawT l))), .int .i64 0]) (by simp [results, Try.results44, go_sem]) rfl ⟨ret_sI (by unfold putT; rw [hyes]; rfl) (by unfold errT; rw [hyes]; rfl) _, below_more hbr hb2 (Nat.le_refl _)⟩
end Go.Proofs.Ytikodobglhjoiaa
