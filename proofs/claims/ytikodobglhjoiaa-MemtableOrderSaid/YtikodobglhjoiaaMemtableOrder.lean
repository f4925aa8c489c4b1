/-
  Rows.MemtableOrderSaid: in which order entries are added, and how often, makes no difference; they are told sorted, each once, just those that were added.
-/
import Derived.Test.YtikodobglhjoiaaOpenEnt
import Derived.Test.YtikodobglhjoiaaTabOf
import Derived.Deep.RegionHeld3
namespace Go.Proofs.Ytikodobglhjoiaa
open Go.RowKit
set_option linter.unusedVariables false

theorem order_sort (l : List Ent) (k : Nat) : sortE (l.drop k ++ l.take k ++ l) = sortE l := by
  refine sorted_ext (sortE_sorted _) (sortE_sorted _) fun x => ?_
  rw [mem_sortE, mem_sortE, List.mem_append, List.mem_append]
  constructor
  · rintro ((h | h) | h)
    · exact List.mem_of_mem_drop h
    · exact List.mem_of_mem_take h
    · exact h
  · exact .inr
theorem order_ents {w : World} {base n k : Nat} {e : TypeId} {v : Value} {l : List Ent} (h : w.ownsRow base e 3 v (0 + (n - k) + k + n) ([] ++ entsC (l.drop k) ++ entsC (l.take k) ++ entsC l)) (hn : n = l.length) (hk : k ≤ n) (hok : ∀ x ∈ l, okE x) : Ents w v (l.drop k ++ l.take k ++ l) := by
  have hlen : (l.drop k ++ l.take k ++ l).length = 0 + (n - k) + k + n := by simp; omega
  refine ⟨?_, fun x hx => ?_⟩
  · rw [hlen, entsC_append, entsC_append]
    exact Reads.of_own (by simpa using h)
  · rcases List.mem_append.1 hx with h | h
    · rcases List.mem_append.1 h with h | h
      · exact hok x (List.mem_of_mem_drop h)
      · exact hok x (List.mem_of_mem_take h)
    · exact hok x h
theorem order_ents0 {w : World} {base m k : Nat} {e : TypeId} {v : Value} {l : List Ent} {xs : List Value} (h : w.ownsRow base e 3 v m xs) (hm : m = 0) (hl : l = []) : Ents w v (l.drop k ++ l.take k ++ l) := by
  subst hl; subst hm
  have hx : xs = [] := List.eq_nil_of_length_eq_zero (by simpa using h.1)
  subst hx
  have e1 : List.drop k ([] : List Ent) ++ List.take k [] ++ [] = [] := by simp
  rw [e1]
  exact ⟨Reads.of_own h, by simp⟩
theorem reads_z {w : World} {A : Option Addr} {m c : Nat} (hm : m = 0) (hc : c ≤ maxLen) : Reads w (.slice A m c) 3 m [] := by
  subst hm; exact reads_none w A c hc
theorem mem_take_succ {l : List Ent} {j : Nat} {x y : Ent} (h : l[j]? = some y) : x ∈ l.take (j + 1) ↔ x ∈ l.take j ∨ y = x := by
  rw [List.take_add_one, h, List.mem_append]
  simp [eq_comm]

set_option maxRecDepth 100000 in
set_option maxHeartbeats 4000000 in
theorem MemtableOrder_walk (v0 : Value) (l : List Ent) (by' : Int) (w : World) (hl : Ents w v0 l) (hby : 0 ≤ by' ∧ by' ≤ 255) :
    Calls Try.prog 4 #[v0, .int .u8 by'] w fun e w' => e = .returned (.bool true) ∧ Below w.heap.size w w' := by
  obtain ⟨bn, rfl⟩ := Int.eq_ofNat_of_zero_le hby.1
  have hbn : bn ≤ 255 := by have := hby.2; omega
  clear hby
  obtain ⟨⟨A, c, rfl, -, -, -, -⟩, -⟩ := id hl
  obtain ⟨-, hc1, hc2, -⟩ := hl.cells
  unfold maxLen at hc2
  by_cases hlen : l.length ≤ 80
  · have i1 : ¬ (80 : Int) < l.length := by omega
    obtain ⟨i0, hi0, hz0, hz1, hz2⟩ := info_parts infoEnt
    have hok := hl.2
    have hfull := hl
    have hlater := fun h0 => hl.later h0
    obtain ⟨n, hN⟩ : ∃ n, n = l.length := ⟨_, rfl⟩
    rw [← hN] at hc1 hlen i1
    rw [← hN] at hl ⊢
    rw [← hN] at hlater
    have Hn := Lib.hid hN
    have Hok := Lib.hid hok
    have Hl := Lib.hid hl
    have Hlater := Lib.hid hlater
    have hSs := sortE_sorted l
    have hSl := sortE_length l
    rw [← hN] at hSl
    have HSs := Lib.hid hSs
    clear hN hok hfull hl hlater hSs
    go_enter Try.func4, Try.ntmps4
    rcases Nat.eq_zero_or_pos n with h0 | h0
    · have d0 : ¬ (0 : Int) < (n : Int) := by omega
      have hl0 : l = [] := List.eq_nil_of_length_eq_zero (by rw [← Hn.out]; exact h0)
      have H0 := Lib.hid h0
      have Hl0 := Lib.hid hl0
      clear h0 hl0
      obtain ⟨k, hk0⟩ : ∃ k : Nat, k = 0 := ⟨0, rfl⟩
      have hkn : k ≤ n := by omega
      go_wp2_with fail
      refine (law_table _ l _ Hl.out (by rw [← Hn.out]; omega)).mono ?_
      rintro e w1 ⟨g1, rfl, ⟨vt1, hT1⟩, hgg1, hb1⟩
      go_wp2_with fail
      refine (tab_Dump hT1 (by omega)).mono ?_
      rintro e w2 ⟨va, rfl, hoa, hb2⟩
      have hB2 := below_chain hb1 hb2
      have EA2 : Ents w2 va (sortE l) := ⟨Reads.of_own hoa, fun e he => Hok.out e (mem_sortE.1 he)⟩
      have EL2 := Hl.out.next hB2
      have D0 : Below w2.heap.size w2 w2.drew := (Below.refl _ _).drew
      go_wp2_with fail
      go_region_held3 (fun _ => True) (trivial)
        (first
          | (go_at_call 27; refine (tab_Dump hT2 (by have := sortE_length l; have := Hn.out; omega)).mono ?_; rintro e w7 ⟨vb, rfl, hob, hb7⟩; have q5 := below_chain q4 hb7)
          | (go_at_call 26; refine (law_table _ _ _ E3 (by simp; have := Hn.out; omega)).mono ?_; rintro e w6 ⟨g2, rfl, ⟨vt2, hT2⟩, hgg, hb6⟩; have q4 := below_chain q3 hb6; rw [order_sort l k] at hT2)
          | (refine step_append_reads rfl _ _ 22 rfl w2.heap.size 25 i0 _ 3 24 Try.underlying22 hi0 hz0 hz1 hz2 rfl (by decide) v2 _ _ rfl ho2 _ _ [] rfl (reads_z (by first | rfl | exact H0.out | (have := H0.out; omega)) (by unfold maxLen; omega)) (by simp) (by have := H0.out; unfold maxLen; omega) (by have := H0.out; omega) q2.size ?_; intro v3 w5 ho3 hg3; have q3 : Below w2.heap.size w2 w5 := q2.grown hg3 q2.size (own_block_ge ho2); have E3 : Ents w5 v3 (l.drop k ++ l.take k ++ l) := order_ents0 ho3 (by have := H0.out; omega) Hl0.out)
          | (refine step_append_reads rfl _ _ 22 rfl w2.heap.size 25 i0 _ 3 24 Try.underlying22 hi0 hz0 hz1 hz2 rfl (by decide) v1 _ _ rfl ho1 _ _ [] rfl (reads_z (by first | rfl | exact H0.out | (have := H0.out; omega)) (by unfold maxLen; omega)) (by simp) (by have := H0.out; unfold maxLen; omega) (by have := H0.out; omega) q1.size ?_; intro v2 w4 ho2 hg2; have q2 : Below w2.heap.size w2 w4 := q1.grown hg2 q1.size (own_block_ge ho1))
          | (refine step_append_reads rfl _ _ 22 rfl w2.heap.size 25 i0 _ 3 24 Try.underlying22 hi0 hz0 hz1 hz2 rfl (by decide) (.slice none 0 0) 0 [] rfl (World.ownsRow_nil _ _ _ _) _ _ [] rfl (reads_z (by first | rfl | exact H0.out | (have := H0.out; omega)) (by unfold maxLen; omega)) (by simp) (by have := H0.out; unfold maxLen; omega) (by have := H0.out; omega) D0.size ?_; intro v1 w3 ho1 hg1; have q1 : Below w2.heap.size w2 w3 := D0.grown hg1 D0.size (by intro k hk; cases hk))
          | fail)
      have EB : Ents w7 vb (sortE l) := ⟨Reads.of_own hob, fun e he => Hok.out e (mem_sortE.1 he)⟩
      have EA := EA2.next q5
      have EL := EL2.next q5
      have hB := below_chain hB2 q5
      generalize hS : sortE l = S at EA EB hSl HSs
      have hmem : ∀ x, x ∈ S ↔ x ∈ l := fun x => by rw [← hS]; exact mem_sortE
      have Hmem := Lib.hid hmem
      clear hmem hS
      obtain ⟨⟨AA, cA, hva, hq1, hq2, -, -⟩, -⟩ := id EA
      obtain ⟨⟨AB, cB, hvb, -, -, -, -⟩, -⟩ := id EB
      have hSlater := fun h0 => (hva ▸ EA).later h0
      obtain ⟨m, hM⟩ : ∃ m, m = S.length := ⟨_, rfl⟩
      rw [← hM] at hSl hva hq1 hSlater
      subst hva hvb
      unfold maxLen at hq2
      have HM := Lib.hid hM
      have HSlater := Lib.hid hSlater
      have HEA := Lib.hid EA
      have HEB := Lib.hid EB
      have HEL := Lib.hid EL
      clear hM hSlater EA EB EL
      have sl : ¬ (n : Int) < m := by omega
      have sl2 : ¬ n < m := by omega
      have sl3 : decide (n < m) = false := decide_eq_false sl2
      clear EA2 EL2 D0 hb1 hb2 hB2 hT1 hoa hT2 hob hb6 hb7 q1 q2 q3 q4 q5 ho1 ho2 ho3 hg1 hg2 hg3 E3
      go_wp2_with fail
      refine (ex_Same _ _ _ S S true HEA.out HEB.out (by simp)).mono ?_
      rintro e w8 ⟨rfl, hb8⟩
      go_wp2_with fail
      refine (ex_Sorted _ _ S true (HEA.out.next hb8) HSs.out).mono ?_
      rintro e w9 ⟨rfl, hb9⟩
      have hb89 := below_chain hb8 hb9
      have HEA9 := Lib.hid (HEA.out.next hb89)
      go_wp2_with fail
      go_loopw [8] (fun i wr => ∃ k : Nat, k ≤ n ∧ i = .int .i64 (k : Int) ∧ Below w7.heap.size w7 wr) (fun i _ => n - (intOf i).toNat)
      case atStart => exact ⟨0, by omega, rfl, hb89⟩
      case round =>
        obtain ⟨k2, hk2, rfl, hbr⟩ := hrel
        by_cases hlt : k2 < n
        · obtain ⟨x, hx⟩ : ∃ x, l[k2]? = some x := ⟨_, List.getElem?_eq_getElem (by rw [← Hn.out]; exact hlt)⟩
          have hxS : x ∈ S := (Hmem.out x).2 (List.mem_of_getElem? hx)
          obtain ⟨bl, ol, hAl, -, hcl⟩ := HEL.out.later (by rw [← Hn.out]; omega)
          have hcx := fun w' hb => hcl k2 x hx w' hb
          obtain ⟨x1, x2, x3⟩ := x
          simp only [] at hcx
          have Hcx := Lib.hid hcx
          have HxS := Lib.hid hxS
          cases hAl
          have j1 : (k2 : Int) < n := by omega
          clear hx hcl hcx hxS
          go_wp2_with fail
          go_loopw [9, 10] (fun t j wi => ∃ (jn : Nat) (bq : Bool), jn ≤ m ∧ j = .int .i64 (jn : Int) ∧ t = .bool bq ∧ (bq = true ↔ (x1, x2, x3) ∈ S.take jn) ∧ Below w7.heap.size w7 wi) (fun _ j _ => m - (intOf j).toNat)
          case atStart => exact ⟨0, false, by omega, rfl, rfl, by simp, hbr⟩
          case round =>
            obtain ⟨jn, bq, hj, rfl, rfl, hbq, hbi⟩ := hrel
            by_cases hjm : jn < m
            · obtain ⟨y, hy⟩ : ∃ y, S[jn]? = some y := ⟨_, List.getElem?_eq_getElem (by have := HM.out; omega)⟩
              have hst := mem_take_succ (x := (x1, x2, x3)) hy
              obtain ⟨ba, oa, hAa, -, hca⟩ := HSlater.out (by omega)
              have hcy := hca jn y hy wr hbi
              obtain ⟨y1, y2, y3⟩ := y
              obtain ⟨d0, d1, d2⟩ := hcy
              obtain ⟨c0, c1, c2⟩ := Hcx.out wr hbi
              simp only [] at d0 d1 d2 c0 c1 c2
              cases hAa
              have jm : (jn : Int) < m := by omega
              have Hst := Lib.hid hst
              have Hbq := Lib.hid hbq
              clear hy hca hst hbq
              cases bq
              · by_cases heq : y1 = x1 ∧ y2 = x2 ∧ y3 = x3
                · obtain ⟨rfl, rfl, rfl⟩ := heq
                  go_wp2_with fail
                  go_quiet (fail)
                  go_wp2
                  go_roundw
                  case rel => exact ⟨jn + 1, true, by omega, by go_num, rfl, by rw [Hst.out]; simp, below_drewN hbi _⟩
                  case measure => simp [intOf]; omega
                · have hne : (decide (y1 = x1) && (decide (y2 = x2) && decide (y3 = x3))) = false := by
                    simp; omega
                  go_wp2_with fail
                  go_quiet (fail)
                  go_wp2
                  go_roundw
                  case rel => exact ⟨jn + 1, false, by omega, by go_num, rfl, by rw [Hst.out, ← Hbq.out]; simp; omega, below_drewN hbi _⟩
                  case measure => simp [intOf]; omega
              · go_wp2_with fail
                go_quiet (fail)
                go_wp2
                go_roundw
                case rel => exact ⟨jn + 1, true, by omega, by go_num, rfl, by rw [Hst.out, ← Hbq.out]; simp, below_drewN hbi _⟩
                case measure => simp [intOf]; omega
            · obtain rfl : jn = m := by omega
              have : bq = true := by
                rw [hbq, List.take_of_length_le (by have := HM.out; omega)]; exact HxS.out
              subst this
              have jm : ¬ (jn : Int) < jn := by omega
              clear hbq
              go_wp2
              go_roundw
              case rel => exact ⟨k2 + 1, by omega, by go_num, hbi⟩
              case measure => simp [intOf]; omega
        · have j1 : ¬ (k2 : Int) < n := by omega
          go_wp2_with fail
          go_loopw [11] (fun i wr => ∃ k : Nat, k ≤ m ∧ i = .int .i64 (k : Int) ∧ Below w7.heap.size w7 wr) (fun i _ => m - (intOf i).toNat)
          case atStart => exact ⟨0, by omega, rfl, hbr⟩
          case round =>
            obtain ⟨k3, hk3, rfl, hbr⟩ := hrel
            by_cases hlt3 : k3 < m
            · obtain ⟨x, hx⟩ : ∃ x, S[k3]? = some x := ⟨_, List.getElem?_eq_getElem (by have := HM.out; omega)⟩
              have hxl : x ∈ l := (Hmem.out x).1 (List.mem_of_getElem? hx)
              obtain ⟨ba, oa, hAa, -, hca⟩ := HSlater.out (by omega)
              have hcx := fun w' hb => hca k3 x hx w' hb
              obtain ⟨x1, x2, x3⟩ := x
              simp only [] at hcx
              have Hcx := Lib.hid hcx
              have Hxl := Lib.hid hxl
              cases hAa
              have j3 : (k3 : Int) < m := by omega
              clear hx hca hcx hxl
              go_wp2_with fail
              go_loopw [12, 13] (fun t j wi => ∃ (jn : Nat) (bq : Bool), jn ≤ n ∧ j = .int .i64 (jn : Int) ∧ t = .bool bq ∧ (bq = true ↔ (x1, x2, x3) ∈ l.take jn) ∧ Below w7.heap.size w7 wi) (fun _ j _ => n - (intOf j).toNat)
              case atStart => exact ⟨0, false, by omega, rfl, rfl, by simp, hbr⟩
              case round =>
                obtain ⟨jn, bq, hj, rfl, rfl, hbq, hbi⟩ := hrel
                by_cases hjm : jn < n
                · obtain ⟨y, hy⟩ : ∃ y, l[jn]? = some y := ⟨_, List.getElem?_eq_getElem (by rw [← Hn.out]; exact hjm)⟩
                  have hst := mem_take_succ (x := (x1, x2, x3)) hy
                  obtain ⟨bl, ol, hAl, -, hcl⟩ := HEL.out.later (by rw [← Hn.out]; omega)
                  have hcy := hcl jn y hy wr hbi
                  obtain ⟨y1, y2, y3⟩ := y
                  obtain ⟨d0, d1, d2⟩ := hcy
                  obtain ⟨c0, c1, c2⟩ := Hcx.out wr hbi
                  simp only [] at d0 d1 d2 c0 c1 c2
                  cases hAl
                  have jm : (jn : Int) < n := by omega
                  have Hst := Lib.hid hst
                  have Hbq := Lib.hid hbq
                  clear hy hcl hst hbq
                  cases bq
                  · by_cases heq : x1 = y1 ∧ x2 = y2 ∧ x3 = y3
                    · obtain ⟨rfl, rfl, rfl⟩ := heq
                      go_wp2_with fail
                      go_quiet (fail)
                      go_wp2
                      go_roundw
                      case rel => exact ⟨jn + 1, true, by omega, by go_num, rfl, by rw [Hst.out]; simp, below_drewN hbi _⟩
                      case measure => simp [intOf]; omega
                    · have hne : (decide (x1 = y1) && (decide (x2 = y2) && decide (x3 = y3))) = false := by
                        simp; omega
                      go_wp2_with fail
                      go_quiet (fail)
                      go_wp2
                      go_roundw
                      case rel => exact ⟨jn + 1, false, by omega, by go_num, rfl, by rw [Hst.out, ← Hbq.out]; simp; omega, below_drewN hbi _⟩
                      case measure => simp [intOf]; omega
                  · go_wp2_with fail
                    go_quiet (fail)
                    go_wp2
                    go_roundw
                    case rel => exact ⟨jn + 1, true, by omega, by go_num, rfl, by rw [Hst.out, ← Hbq.out]; simp, below_drewN hbi _⟩
                    case measure => simp [intOf]; omega
                · obtain rfl : jn = n := by omega
                  have : bq = true := by
                    rw [hbq, List.take_of_length_le (by rw [← Hn.out]; exact Nat.le_refl _)]; exact Hxl.out
                  subst this
                  have jm : ¬ (jn : Int) < jn := by omega
                  clear hbq
                  go_wp2
                  go_roundw
                  case rel => exact ⟨k3 + 1, by omega, by go_num, hbi⟩
                  case measure => simp [intOf]; omega
            · have j3 : ¬ (k3 : Int) < m := by omega
              go_wp2_with fail
              refine (law_kept _).mono ?_
              rintro e w10 ⟨rfl, hb10⟩
              go_wp2
              go_ret
              exact ⟨rfl, below_chain hB (below_chain hbr hb10)⟩
    · have d0 : (0 : Int) < (n : Int) := by omega
      obtain ⟨k, hk⟩ : ∃ k, k = bn % n := ⟨_, rfl⟩
      have hkn0 : k < n := by rw [hk]; exact Nat.mod_lt _ h0
      have hkn : k ≤ n := by omega
      have wk1 : ((bn : Int) % (n : Int)) = (k : Int) := by rw [hk]; simp
      have wk2 : Int.tmod (bn : Int) (n : Int) = (k : Int) := by rw [Int.tmod_eq_emod_of_nonneg (by omega)]; exact wk1
      have nz : ¬ (n : Int) = 0 := by omega
      have ck : ¬ c = k := by omega
      have c0 : ¬ c = 0 := by omega
      have kc : (k : Int) ≤ c := by omega
      have kn : (k : Int) ≤ n := by omega
      have Hk := Lib.hid hk
      clear hk
      obtain ⟨b, off, rfl, -, -⟩ := Hlater.out h0
      go_wp2_with fail
      refine (law_table _ l _ Hl.out (by rw [← Hn.out]; omega)).mono ?_
      rintro e w1 ⟨g1, rfl, ⟨vt1, hT1⟩, hgg1, hb1⟩
      go_wp2_with fail
      refine (tab_Dump hT1 (by omega)).mono ?_
      rintro e w2 ⟨va, rfl, hoa, hb2⟩
      have hB2 := below_chain hb1 hb2
      have EA2 : Ents w2 va (sortE l) := ⟨Reads.of_own hoa, fun e he => Hok.out e (mem_sortE.1 he)⟩
      have EL2 := Hl.out.next hB2
      have D0 : Below w2.heap.size w2 w2.drew := (Below.refl _ _).drew
      have R1 : ∀ w', Below w2.heap.size w2 w' → Reads w' (.slice (some ⟨b, off + k * 3, none⟩) (n - k) (c - k)) 3 (n - k) (entsC (l.drop k)) := fun w' hb => by
        have h := (Ents.sliced EL2 k n c hkn (by rw [← Hn.out]; exact Nat.le_refl _) hc1 (Nat.le_refl _)).1.next hb
        have e : List.take (n - k) (List.drop k l) = l.drop k := List.take_of_length_le (by simp; have := Hn.out; omega)
        rw [e] at h
        have e2 : (l.drop k).length = n - k := by simp; have := Hn.out; omega
        rw [e2] at h
        have e3 : Go.sliced (some ⟨b, off, none⟩) k n c 3 = .slice (some ⟨b, off + k * 3, none⟩) (n - k) (c - k) := by unfold Go.sliced; rw [if_neg (by omega)]; simp [Addr.add_lit]
        rw [e3] at h; exact h
      have R2 : ∀ w', Below w2.heap.size w2 w' → Reads w' (.slice (some ⟨b, off, none⟩) k c) 3 k (entsC (l.take k)) := fun w' hb => by
        have h := (Ents.sliced EL2 0 k c (by omega) (by rw [← Hn.out]; exact hkn) (by omega) (Nat.le_refl _)).1.next hb
        have e : List.take (k - 0) (List.drop 0 l) = l.take k := by simp
        rw [e] at h
        have e2 : (l.take k).length = k := by simp; have := Hn.out; omega
        rw [e2] at h
        have e3 : Go.sliced (some ⟨b, off, none⟩) 0 k c 3 = .slice (some ⟨b, off, none⟩) k c := by unfold Go.sliced; split <;> simp [Addr.add_lit]
        rw [e3] at h; exact h
      have R3 : ∀ w', Below w2.heap.size w2 w' → Reads w' (.slice (some ⟨b, off, none⟩) n c) 3 n (entsC l) := fun w' hb => by
        have h := (EL2.next hb).1
        rw [← Hn.out] at h; exact h
      go_wp2_with fail
      go_region_held3 (fun _ => True) (trivial)
        (first
          | (go_at_call 27; refine (tab_Dump hT2 (by have := sortE_length l; have := Hn.out; omega)).mono ?_; rintro e w7 ⟨vb, rfl, hob, hb7⟩; have q5 := below_chain q4 hb7)
          | (go_at_call 26; refine (law_table _ _ _ E3 (by simp; have := Hn.out; omega)).mono ?_; rintro e w6 ⟨g2, rfl, ⟨vt2, hT2⟩, hgg, hb6⟩; have q4 := below_chain q3 hb6; rw [order_sort l k] at hT2)
          | (refine step_append_reads rfl _ _ 22 rfl w2.heap.size 25 i0 _ 3 24 Try.underlying22 hi0 hz0 hz1 hz2 rfl (by decide) v2 _ _ rfl ho2 _ n (entsC l) rfl (R3 _ q2) (entsC_one _) (by unfold maxLen; omega) (by omega) q2.size ?_; intro v3 w5 ho3 hg3; have q3 : Below w2.heap.size w2 w5 := q2.grown hg3 q2.size (own_block_ge ho2); have E3 : Ents w5 v3 (l.drop k ++ l.take k ++ l) := order_ents ho3 Hn.out hkn Hok.out)
          | (refine step_append_reads rfl _ _ 22 rfl w2.heap.size 25 i0 _ 3 24 Try.underlying22 hi0 hz0 hz1 hz2 rfl (by decide) v1 _ _ rfl ho1 _ k (entsC (l.take k)) rfl (R2 _ q1) (entsC_one _) (by unfold maxLen; omega) (by omega) q1.size ?_; intro v2 w4 ho2 hg2; have q2 : Below w2.heap.size w2 w4 := q1.grown hg2 q1.size (own_block_ge ho1))
          | (refine step_append_reads rfl _ _ 22 rfl w2.heap.size 25 i0 _ 3 24 Try.underlying22 hi0 hz0 hz1 hz2 rfl (by decide) (.slice none 0 0) 0 [] rfl (World.ownsRow_nil _ _ _ _) _ (n - k) (entsC (l.drop k)) rfl (R1 _ D0) (entsC_one _) (by unfold maxLen; omega) (by omega) D0.size ?_; intro v1 w3 ho1 hg1; have q1 : Below w2.heap.size w2 w3 := D0.grown hg1 D0.size (by intro k hk; cases hk))
          | fail)
      have EB : Ents w7 vb (sortE l) := ⟨Reads.of_own hob, fun e he => Hok.out e (mem_sortE.1 he)⟩
      have EA := EA2.next q5
      have EL := EL2.next q5
      have hB := below_chain hB2 q5
      generalize hS : sortE l = S at EA EB hSl HSs
      have hmem : ∀ x, x ∈ S ↔ x ∈ l := fun x => by rw [← hS]; exact mem_sortE
      have Hmem := Lib.hid hmem
      clear hmem hS
      obtain ⟨⟨AA, cA, hva, hq1, hq2, -, -⟩, -⟩ := id EA
      obtain ⟨⟨AB, cB, hvb, -, -, -, -⟩, -⟩ := id EB
      have hSlater := fun h0 => (hva ▸ EA).later h0
      obtain ⟨m, hM⟩ : ∃ m, m = S.length := ⟨_, rfl⟩
      rw [← hM] at hSl hva hq1 hSlater
      subst hva hvb
      unfold maxLen at hq2
      have HM := Lib.hid hM
      have HSlater := Lib.hid hSlater
      have HEA := Lib.hid EA
      have HEB := Lib.hid EB
      have HEL := Lib.hid EL
      clear hM hSlater EA EB EL
      have sl : ¬ (n : Int) < m := by omega
      have sl2 : ¬ n < m := by omega
      have sl3 : decide (n < m) = false := decide_eq_false sl2
      clear EA2 EL2 D0 hb1 hb2 hB2 hT1 hoa hT2 hob hb6 hb7 q1 q2 q3 q4 q5 ho1 ho2 ho3 hg1 hg2 hg3 E3 R1 R2 R3
      go_wp2_with fail
      refine (ex_Same _ _ _ S S true HEA.out HEB.out (by simp)).mono ?_
      rintro e w8 ⟨rfl, hb8⟩
      go_wp2_with fail
      refine (ex_Sorted _ _ S true (HEA.out.next hb8) HSs.out).mono ?_
      rintro e w9 ⟨rfl, hb9⟩
      have hb89 := below_chain hb8 hb9
      have HEA9 := Lib.hid (HEA.out.next hb89)
      go_wp2_with fail
      go_loopw [8] (fun i wr => ∃ k : Nat, k ≤ n ∧ i = .int .i64 (k : Int) ∧ Below w7.heap.size w7 wr) (fun i _ => n - (intOf i).toNat)
      case atStart => exact ⟨0, by omega, rfl, hb89⟩
      case round =>
        obtain ⟨k2, hk2, rfl, hbr⟩ := hrel
        by_cases hlt : k2 < n
        · obtain ⟨x, hx⟩ : ∃ x, l[k2]? = some x := ⟨_, List.getElem?_eq_getElem (by rw [← Hn.out]; exact hlt)⟩
          have hxS : x ∈ S := (Hmem.out x).2 (List.mem_of_getElem? hx)
          obtain ⟨bl, ol, hAl, -, hcl⟩ := HEL.out.later (by rw [← Hn.out]; omega)
          have hcx := fun w' hb => hcl k2 x hx w' hb
          obtain ⟨x1, x2, x3⟩ := x
          simp only [] at hcx
          have Hcx := Lib.hid hcx
          have HxS := Lib.hid hxS
          cases hAl
          have j1 : (k2 : Int) < n := by omega
          clear hx hcl hcx hxS
          go_wp2_with fail
          go_loopw [9, 10] (fun t j wi => ∃ (jn : Nat) (bq : Bool), jn ≤ m ∧ j = .int .i64 (jn : Int) ∧ t = .bool bq ∧ (bq = true ↔ (x1, x2, x3) ∈ S.take jn) ∧ Below w7.heap.size w7 wi) (fun _ j _ => m - (intOf j).toNat)
          case atStart => exact ⟨0, false, by omega, rfl, rfl, by simp, hbr⟩
          case round =>
            obtain ⟨jn, bq, hj, rfl, rfl, hbq, hbi⟩ := hrel
            by_cases hjm : jn < m
            · obtain ⟨y, hy⟩ : ∃ y, S[jn]? = some y := ⟨_, List.getElem?_eq_getElem (by have := HM.out; omega)⟩
              have hst := mem_take_succ (x := (x1, x2, x3)) hy
              obtain ⟨ba, oa, hAa, -, hca⟩ := HSlater.out (by omega)
              have hcy := hca jn y hy wr hbi
              obtain ⟨y1, y2, y3⟩ := y
              obtain ⟨d0, d1, d2⟩ := hcy
              obtain ⟨c0, c1, c2⟩ := Hcx.out wr hbi
              simp only [] at d0 d1 d2 c0 c1 c2
              cases hAa
              have jm : (jn : Int) < m := by omega
              have Hst := Lib.hid hst
              have Hbq := Lib.hid hbq
              clear hy hca hst hbq
              cases bq
              · by_cases heq : y1 = x1 ∧ y2 = x2 ∧ y3 = x3
                · obtain ⟨rfl, rfl, rfl⟩ := heq
                  go_wp2_with fail
                  go_quiet (fail)
                  go_wp2
                  go_roundw
                  case rel => exact ⟨jn + 1, true, by omega, by go_num, rfl, by rw [Hst.out]; simp, below_drewN hbi _⟩
                  case measure => simp [intOf]; omega
                · have hne : (decide (y1 = x1) && (decide (y2 = x2) && decide (y3 = x3))) = false := by
                    simp; omega
                  go_wp2_with fail
                  go_quiet (fail)
                  go_wp2
                  go_roundw
                  case rel => exact ⟨jn + 1, false, by omega, by go_num, rfl, by rw [Hst.out, ← Hbq.out]; simp; omega, below_drewN hbi _⟩
                  case measure => simp [intOf]; omega
              · go_wp2_with fail
                go_quiet (fail)
                go_wp2
                go_roundw
                case rel => exact ⟨jn + 1, true, by omega, by go_num, rfl, by rw [Hst.out, ← Hbq.out]; simp, below_drewN hbi _⟩
                case measure => simp [intOf]; omega
            · obtain rfl : jn = m := by omega
              have : bq = true := by
                rw [hbq, List.take_of_length_le (by have := HM.out; omega)]; exact HxS.out
              subst this
              have jm : ¬ (jn : Int) < jn := by omega
              clear hbq
              go_wp2
              go_roundw
              case rel => exact ⟨k2 + 1, by omega, by go_num, hbi⟩
              case measure => simp [intOf]; omega
        · have j1 : ¬ (k2 : Int) < n := by omega
          go_wp2_with fail
          go_loopw [11] (fun i wr => ∃ k : Nat, k ≤ m ∧ i = .int .i64 (k : Int) ∧ Below w7.heap.size w7 wr) (fun i _ => m - (intOf i).toNat)
          case atStart => exact ⟨0, by omega, rfl, hbr⟩
          case round =>
            obtain ⟨k3, hk3, rfl, hbr⟩ := hrel
            by_cases hlt3 : k3 < m
            · obtain ⟨x, hx⟩ : ∃ x, S[k3]? = some x := ⟨_, List.getElem?_eq_getElem (by have := HM.out; omega)⟩
              have hxl : x ∈ l := (Hmem.out x).1 (List.mem_of_getElem? hx)
              obtain ⟨ba, oa, hAa, -, hca⟩ := HSlater.out (by omega)
              have hcx := fun w' hb => hca k3 x hx w' hb
              obtain ⟨x1, x2, x3⟩ := x
              simp only [] at hcx
              have Hcx := Lib.hid hcx
              have Hxl := Lib.hid hxl
              cases hAa
              have j3 : (k3 : Int) < m := by omega
              clear hx hca hcx hxl
              go_wp2_with fail
              go_loopw [12, 13] (fun t j wi => ∃ (jn : Nat) (bq : Bool), jn ≤ n ∧ j = .int .i64 (jn : Int) ∧ t = .bool bq ∧ (bq = true ↔ (x1, x2, x3) ∈ l.take jn) ∧ Below w7.heap.size w7 wi) (fun _ j _ => n - (intOf j).toNat)
              case atStart => exact ⟨0, false, by omega, rfl, rfl, by simp, hbr⟩
              case round =>
                obtain ⟨jn, bq, hj, rfl, rfl, hbq, hbi⟩ := hrel
                by_cases hjm : jn < n
                · obtain ⟨y, hy⟩ : ∃ y, l[jn]? = some y := ⟨_, List.getElem?_eq_getElem (by rw [← Hn.out]; exact hjm)⟩
                  have hst := mem_take_succ (x := (x1, x2, x3)) hy
                  obtain ⟨bl, ol, hAl, -, hcl⟩ := HEL.out.later (by rw [← Hn.out]; omega)
                  have hcy := hcl jn y hy wr hbi
                  obtain ⟨y1, y2, y3⟩ := y
                  obtain ⟨d0, d1, d2⟩ := hcy
                  obtain ⟨c0, c1, c2⟩ := Hcx.out wr hbi
                  simp only [] at d0 d1 d2 c0 c1 c2
                  cases hAl
                  have jm : (jn : Int) < n := by omega
                  have Hst := Lib.hid hst
                  have Hbq := Lib.hid hbq
                  clear hy hcl hst hbq
                  cases bq
                  · by_cases heq : x1 = y1 ∧ x2 = y2 ∧ x3 = y3
                    · obtain ⟨rfl, rfl, rfl⟩ := heq
                      go_wp2_with fail
                      go_quiet (fail)
                      go_wp2
                      go_roundw
                      case rel => exact ⟨jn + 1, true, by omega, by go_num, rfl, by rw [Hst.out]; simp, below_drewN hbi _⟩
                      case measure => simp [intOf]; omega
                    · have hne : (decide (x1 = y1) && (decide (x2 = y2) && decide (x3 = y3))) = false := by
                        simp; omega
                      go_wp2_with fail
                      go_quiet (fail)
                      go_wp2
                      go_roundw
                      case rel => exact ⟨jn + 1, false, by omega, by go_num, rfl, by rw [Hst.out, ← Hbq.out]; simp; omega, below_drewN hbi _⟩
                      case measure => simp [intOf]; omega
                  · go_wp2_with fail
                    go_quiet (fail)
                    go_wp2
                    go_roundw
                    case rel => exact ⟨jn + 1, true, by omega, by go_num, rfl, by rw [Hst.out, ← Hbq.out]; simp, below_drewN hbi _⟩
                    case measure => simp [intOf]; omega
                · obtain rfl : jn = n := by omega
                  have : bq = true := by
                    rw [hbq, List.take_of_length_le (by rw [← Hn.out]; exact Nat.le_refl _)]; exact Hxl.out
                  subst this
                  have jm : ¬ (jn : Int) < jn := by omega
                  clear hbq
                  go_wp2
                  go_roundw
                  case rel => exact ⟨k3 + 1, by omega, by go_num, hbi⟩
                  case measure => simp [intOf]; omega
            · have j3 : ¬ (k3 : Int) < m := by omega
              go_wp2_with fail
              refine (law_kept _).mono ?_
              rintro e w10 ⟨rfl, hb10⟩
              go_wp2
              go_ret
              exact ⟨rfl, below_chain hB (below_chain hbr hb10)⟩
  · have i1 : (80 : Int) < l.length := by omega
    go_enter Try.func4, Try.ntmps4
    go_wp2_with fail
    refine (law_kept _).mono ?_
    rintro e w1 ⟨rfl, hb1⟩
    go_wp2
    go_ret
    exact ⟨rfl, hb1⟩
end Go.Proofs.Ytikodobglhjoiaa
