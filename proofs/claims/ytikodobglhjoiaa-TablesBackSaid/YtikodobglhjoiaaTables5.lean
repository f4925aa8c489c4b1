/-
  TABLES: the reference's Get.
-/
import Derived.Test.YtikodobglhjoiaaTables4
import Derived.Test.YtikodobglhjoiaaTables2
namespace Go.Proofs.Ytikodobglhjoiaa
open Go.RowKit
set_option linter.unusedVariables false

set_option maxHeartbeats 2000000 in
theorem ref_tGet (s : ByteArray) (w : World) (hs : s.size ≤ 10000000) :
    Calls Try.prog 46 #[.string s] w fun e w' => ∃ v, e = .returned (.tuple #[v, .int .i64 (tabE (lb s))]) ∧ ToldT w' w.heap.size v (tabL (lb s)) ∧ Below w.heap.size w w' := by
  obtain ⟨i0, hi0, hz0, hz1, hz2⟩ := info_parts infoEnt
  have hll : (lb s).length = s.size := length_lb s
  by_cases c1 : s.size < 12
  · have c1' : (s.size : Int) < 12 := by omega
    have hno : tabOk (lb s) = false := by unfold tabOk; rw [hll]; simp; intros; omega
    go_enter Try.func46, Try.ntmps46
    go_wp2
    refine bodyPost_ret (v := .tuple #[.slice none 0 0, .int .i64 90]) (by simp [results, Try.results46, go_sem]) rfl ⟨.slice none 0 0, by unfold tabE; rw [hno]; rfl, by unfold tabL; rw [hno]; exact toldT_none _ _, Below.refl _ _⟩
  · have c1' : ¬ (s.size : Int) < 12 := by omega
    have w0 : IntKind.i64.wrap ((s.size : Int) - 12) = (s.size : Int) - 12 := by rw [IntKind.wrap_i64]; omega
    by_cases c2 : (s.size - 12) % 24 = 0
    · obtain ⟨m, hm⟩ : ∃ m, s.size = 12 + 24 * m := ⟨(s.size - 12) / 24, by omega⟩
      have c2' : Int.tmod ((s.size : Int) - 12) 24 = 0 := by rw [Int.tmod_eq_emod_of_nonneg (by omega)]; omega
      have c2'' : ((s.size : Int) - 12) % 24 = 0 := by omega
      have hmany : manyT (lb s) = m := by unfold manyT; rw [hll]; omega
      have Hm := Lib.hid hm
      have Hmany := Lib.hid hmany
      have hR : (lb s).drop 8 = (lb s).drop 8 := rfl
      generalize hRR : (lb s).drop 8 = R at hR
      have HR := Lib.hid hRR
      have hm7 : m ≤ 1000000 := by omega
      clear hm hmany hR hRR c2
      go_enter Try.func46, Try.ntmps46
      go_wp2_with fail
      go_loopw [4, 5] (fun b i wr => ∃ k : Nat, k ≤ m ∧ i = .int .i64 (8 + 24 * (k : Int)) ∧ partsOk R k = true ∧ wr.ownsRow w.heap.size 25 3 b k (entsC (parsedT R k)) ∧ Below w.heap.size w wr) (fun _ i _ => (8 + 24 * (m : Int) - intOf i).toNat)
      case atStart => exact ⟨0, by omega, by first | rfl | simp, rfl, World.ownsRow_nil _ _ _ _, Below.refl _ _⟩
      case round =>
        obtain ⟨k, hk, rfl, hpk, hown, hbr⟩ := hrel
        have Hpk := Lib.hid hpk
        have Hown := Lib.hid hown
        clear hpk hown
        have w1 : IntKind.i64.wrap (8 + 24 * (k : Int) + 28) = 8 + 24 * (k : Int) + 28 := by rw [IntKind.wrap_i64]; omega
        have w2 : IntKind.i64.wrap (8 + 24 * (k : Int) + 24) = 8 + 24 * (k : Int) + 24 := by rw [IntKind.wrap_i64]; omega
        by_cases hlt : k < m
        · have i1 : 8 + 24 * (k : Int) + 28 ≤ (s.size : Int) := by have := Hm.out; omega
          have i2 : 8 + 24 * (k : Int) + 24 ≤ (s.size : Int) := by have := Hm.out; omega
          have i3 : (0 : Int) ≤ 8 + 24 * (k : Int) := by omega
          have i4 : 8 + 24 * (k : Int) ≤ 8 + 24 * (k : Int) + 24 := by omega
          have n1 : (8 + 24 * (k : Int)).toNat = 8 + 24 * k := by omega
          have n2 : (8 + 24 * (k : Int) + 24).toNat = 8 + 24 * k + 24 := by omega
          have hget := fun w => ref_entGet (s.extract (8 + 24 * k) (8 + 24 * k + 24)) w (by rw [bs_extract, size_bs]; simp [maxLen]; omega)
          have hlb : lb (s.extract (8 + 24 * k) (8 + 24 * k + 24)) = partT R k := by
            rw [bs_extract, lb_bs, ← HR.out]
            unfold partT
            rw [List.drop_drop]
            congr 1; omega
          rw [hlb] at hget
          have hoE : okG (partT R k) = true → okE (getE (partT R k)) := fun h => (put_getE h).2.2
          have hsucc := parsedT_succ R k
          have hps := partsOk_succ R k
          generalize getE (partT R k) = e at hget hoE hsucc
          generalize okG (partT R k) = og at hget hoE hps
          obtain ⟨e1, e2, e3⟩ := e
          unfold entC at hget
          have HoE := Lib.hid hoE
          have Hsucc := Lib.hid hsucc
          have Hps := Lib.hid hps
          clear hoE hsucc hps hlb
          cases og
          · have hno : tabOk (lb s) = false := by
              unfold tabOk
              rw [Hmany.out, HR.out]
              have : partsOk R m = false := by
                rw [← Bool.not_eq_true]
                intro h
                unfold partsOk at h
                have h2 := Hps.out
                rw [Bool.and_false] at h2
                have h3 : partsOk R (k + 1) = true := by
                  unfold partsOk
                  rw [List.all_eq_true] at h ⊢
                  exact fun i hi => h i (List.mem_range.2 (by have := List.mem_range.1 hi; omega))
                rw [h2] at h3; cases h3
              rw [this]; simp
            go_wp2_with fail
            refine (hget _).mono ?_
            rintro y w3 ⟨rfl, hb3⟩
            go_wp2
            refine bodyPost_ret (v := .tuple #[.slice none 0 0, .int .i64 90]) (by simp [results, Try.results46, go_sem]) rfl ⟨.slice none 0 0, by unfold tabE; rw [hno]; rfl, by unfold tabL; rw [hno]; exact toldT_none _ _, below_more hbr (below_chain hb3 (below_lit _ _)) (Nat.le_refl _)⟩
          · go_wp2_with fail
            refine (hget _).mono ?_
            rintro y w3 ⟨rfl, hb3⟩
            have k3 := below_chain hb3 (below_lit w3 (.cells #[.int .u64 (e1 : Nat), .int .i64 e2, .int .i64 e3] 25))
            have hbw := below_more hbr k3 (Nat.le_refl _)
            have hown3 := own_next Hown.out k3
            have oe := HoE.out (by first | rfl | trivial)
            have hb4 := below_more hbw (below_lit (w3.alloc (.cells #[.int .u64 (e1 : Nat), .int .i64 e2, .int .i64 e3] 25)) (.cells #[.int .u64 (e1 : Nat), .int .i64 e2, .int .i64 e3] 25)) (Nat.le_refl _)
            have hEl : Ents ((w3.alloc (.cells #[.int .u64 (e1 : Nat), .int .i64 e2, .int .i64 e3] 25)).alloc (.cells #[.int .u64 (e1 : Nat), .int .i64 e2, .int .i64 e3] 25)) (.slice (some ⟨w3.heap.size + 1, 0, none⟩) 1 1) [(e1, e2, e3)] := by
              have h := ents_lit (w3.alloc (.cells #[.int .u64 (e1 : Nat), .int .i64 e2, .int .i64 e3] 25)) (e1, e2, e3) oe
              have e : (w3.alloc (.cells #[.int .u64 (e1 : Nat), .int .i64 e2, .int .i64 e3] 25)).heap.size = w3.heap.size + 1 := by simp
              rw [e] at h; exact h
            have hEl1 := hEl.1
            go_wp2_with (first
              | (at_builtin; refine wpList_append_reads _ rfl _ _ 22 rfl w.heap.size 25 i0 _ 3 24 Try.underlying22 hi0 hz0 hz1 hz2 rfl (by decide) _ k _ rfl (own_next hown3 (below_lit _ _)) _ 1 (entsC [(e1, e2, e3)]) rfl hEl1 (entsC_one _) (by unfold maxLen; omega) (by omega) hb4.size ?_; intro v3 w5 hown5 hg5))
            have hb5 := hb4.grown hg5 hb4.size (own_block_ge hown3)
            go_wp2
            go_roundw
            case rel =>
              refine ⟨k + 1, by omega, by first | (rw [w2]; congr 1; omega) | (congr 1; omega) | go_num, by rw [Hps.out, Hpk.out]; rfl, ?_, hb5⟩
              rw [Hsucc.out, entsC_append]; exact hown5
            case measure => simp [intOf]; omega
        · obtain rfl : k = m := by omega
          have i1 : ¬ 8 + 24 * (k : Int) + 28 ≤ (s.size : Int) := by have := Hm.out; omega
          have hEn : ∀ e ∈ parsedT R k, okE e := (parts_body Hpk.out).2.2
          have hown2 := Hown.out
          have hlen := Lib.hid (show k = (parsedT R k).length from (length_parsedT R k).symm)
          have hput := fun w hw => ref_tPut u4 (parsedT R k) w hw (by rw [← hlen.out]; omega)
          have hEnt : Ents wr u4 (parsedT R k) := ⟨by have := Reads.of_own hown2; rw [← hlen.out]; exact this, hEn⟩
          have hP : tabOk (lb s) = (mayT (parsedT R k) && (putT (parsedT R k) == lb s)) := by
            unfold tabOk
            rw [Hmany.out, HR.out, Hpk.out, hll, Hm.out]
            simp
          have hL : tabOk (lb s) = true → parsedT R k = tabL (lb s) := fun h => by
            unfold tabL; rw [h, if_pos rfl, Hmany.out, HR.out]
          have HL := Lib.hid hL
          have HP := Lib.hid hP
          clear hL hP
          have hput' := hput wr hEnt
          rcases hmay : mayT (parsedT R k) with _ | _
          · have hno : tabOk (lb s) = false := by rw [HP.out, hmay]; rfl
            have he2 : errT (parsedT R k) = 2 := by unfold errT; rw [hmay]; rfl
            rw [he2] at hput'
            clear hput hmay
            go_wp2_with fail
            refine hput'.mono ?_
            rintro y w3 ⟨rfl, hb3⟩
            go_wp2
            refine bodyPost_ret (v := .tuple #[.slice none 0 0, .int .i64 90]) (by simp [results, Try.results46, go_sem]) rfl ⟨.slice none 0 0, by unfold tabE; rw [hno]; rfl, by unfold tabL; rw [hno]; exact toldT_none _ _, below_more hbr hb3 (Nat.le_refl _)⟩
          · have he2 : errT (parsedT R k) = 0 := by unfold errT; rw [hmay]; rfl
            rw [he2] at hput'
            have hP2 := HP.out
            rw [hmay, Bool.true_and] at hP2
            generalize putT (parsedT R k) = PT at hput' hP2
            rcases hq : (PT == lb s) with _ | _
            · have hno : tabOk (lb s) = false := by rw [hP2, hq]
              have hq2 : (PT == s.toList) = false := by rw [toList_lb]; exact hq
              clear hput hmay hP2 hq
              go_wp2_with fail
              refine hput'.mono ?_
              rintro y w3 ⟨rfl, hb3⟩
              go_wp2
              refine bodyPost_ret (v := .tuple #[.slice none 0 0, .int .i64 90]) (by simp [results, Try.results46, go_sem]) rfl ⟨.slice none 0 0, by unfold tabE; rw [hno]; rfl, by unfold tabL; rw [hno]; exact toldT_none _ _, below_more hbr hb3 (Nat.le_refl _)⟩
            · have hyes : tabOk (lb s) = true := by rw [hP2, hq]
              have hq2 : (PT == s.toList) = true := by rw [toList_lb]; exact hq
              have hPL := HL.out hyes
              clear hput hmay hP2 hq
              go_wp2_with fail
              refine hput'.mono ?_
              rintro y w3 ⟨rfl, hb3⟩
              have hown4 := own_next hown2 hb3
              have hlen2 := hlen.out
              rw [hPL] at hown4 hEn hlen2
              have Hlen2 := Lib.hid hlen2
              clear hlen2
              go_wp2
              refine bodyPost_ret (v := .tuple #[u4, .int .i64 0]) (by simp [results, Try.results46, go_sem]) rfl ⟨u4, by unfold tabE; rw [hyes]; rfl, ⟨by rw [← Hlen2.out]; exact hown4, hEn⟩, below_more hbr hb3 (Nat.le_refl _)⟩
    · have hno : tabOk (lb s) = false := by unfold tabOk; rw [hll]; simp [c2]
      have c2' : ¬ Int.tmod ((s.size : Int) - 12) 24 = 0 := by rw [Int.tmod_eq_emod_of_nonneg (by omega)]; omega
      have c2'' : ¬ ((s.size : Int) - 12) % 24 = 0 := by omega
      go_enter Try.func46, Try.ntmps46
      go_wp2
      refine bodyPost_ret (v := .tuple #[.slice none 0 0, .int .i64 90]) (by simp [results, Try.results46, go_sem]) rfl ⟨.slice none 0 0, by unfold tabE; rw [hno]; rfl, by unfold tabL; rw [hno]; exact toldT_none _ _, Below.refl _ _⟩
end Go.Proofs.Ytikodobglhjoiaa
