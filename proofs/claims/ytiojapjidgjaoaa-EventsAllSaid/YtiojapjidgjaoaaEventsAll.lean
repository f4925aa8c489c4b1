/-
  Rows.EventsAllSaid: whether two lists are the same, one by one, is the document's.
-/
import Derived.Test.YtiojapjidgjaoaaLawAll
import Derived.Test.YtiojapjidgjaoaaHappened
namespace Go.Proofs.Ytiojapjidgjaoaa
open Go.RowKit
set_option linter.unusedVariables false

theorem evs_own {w : World} {base : Nat} {v : Value} {l : List Ev} (h : w.ownsRow base 28 3 v l.length (l.flatMap evL)) (ho : ∀ e ∈ l, okV e) : Evs w v l := ⟨Reads.of_own h, ho⟩

set_option maxHeartbeats 2000000 in
theorem EventsAll_walk (v0 : Value) (a : List Ev) (v1 : Value) (b : List Ev) (w : World) (ha : Raws w v0 a) (hb : Raws w v1 b) :
    Calls Try.prog 5 #[v0, v1] w fun e w' => e = .returned (.bool true) ∧ Below w.heap.size w w' := by
  obtain ⟨⟨A, c, rfl, -, -, -, -⟩, -⟩ := id ha
  obtain ⟨⟨B, d, rfl, -, -, -, -⟩, -⟩ := id hb
  obtain ⟨-, ha1, ha2, -⟩ := Reads.each rawL_len ha.1
  obtain ⟨-, hb1, hb2, -⟩ := Reads.each rawL_len hb.1
  unfold maxLen at ha2 hb2
  by_cases hn : 30 < a.length
  · have hn' : (30 : Int) < a.length := by omega
    go_enter Try.func5, Try.ntmps5
    go_wp2_with fail
    refine (law_happened _).mono ?_
    rintro e w1 ⟨rfl, hb1'⟩
    go_wp2
    go_ret
    exact ⟨rfl, hb1'⟩
  · have hn' : ¬ (30 : Int) < a.length := by omega
    by_cases hm : 30 < b.length
    · have hm' : (30 : Int) < b.length := by omega
      go_enter Try.func5, Try.ntmps5
      go_wp2_with fail
      refine (law_happened _).mono ?_
      rintro e w1 ⟨rfl, hb1'⟩
      go_wp2
      go_ret
      exact ⟨rfl, hb1'⟩
    · have hm' : ¬ (30 : Int) < b.length := by omega
      have hLa := fun h0 => ha.later h0
      have hLb := fun h0 => hb.later h0
      have oa := ha.2
      have ob := hb.2
      have la := fun w' (h : Below w.heap.size w w') => law_AllV _ a w' (ha.next h) (by omega)
      have lb' := fun w' (h : Below w.heap.size w w') => law_AllV _ b w' (hb.next h) (by omega)
      obtain ⟨n, hN⟩ : ∃ n, n = a.length := ⟨_, rfl⟩
      obtain ⟨m, hM⟩ : ∃ n, n = b.length := ⟨_, rfl⟩
      rw [← hN] at ha1 hn hn' ⊢
      rw [← hN] at la
      rw [← hM] at hb1 hm hm' ⊢
      rw [← hM] at lb'
      have HN := Lib.hid hN
      have HM := Lib.hid hM
      have HLa := Lib.hid hLa
      have HLb := Lib.hid hLb
      have Oa := Lib.hid oa
      have Ob := Lib.hid ob
      have Ha := Lib.hid la
      have Hb := Lib.hid lb'
      clear hN hM hLa hLb oa ob la lb' ha hb hn hm
      go_enter Try.func5, Try.ntmps5
      go_wp2_with fail
      go_loopw [5] (fun i wr => ∃ k : Nat, k ≤ n ∧ i = .int .i64 (k : Int) ∧ Below w.heap.size w wr) (fun i _ => n - (intOf i).toNat)
      case atStart => exact ⟨0, by omega, rfl, Below.refl _ _⟩
      case round =>
        obtain ⟨k, hk, rfl, hbr⟩ := hrel
        by_cases hlt : k < n
        · obtain ⟨e, he⟩ : ∃ e, a[k]? = some e := ⟨_, List.getElem?_eq_getElem (by have := HN.out; omega)⟩
          obtain ⟨b', off, rfl, -, hc⟩ := HLa.out (by have := HN.out; omega)
          obtain ⟨c0, c1, c2⟩ := hc k e he wr hbr
          have ga := fun w => raw_Great e w (Oa.out e (List.mem_of_getElem? he))
          have i1 : (k : Int) < n := by omega
          generalize greatV e = g at ga
          obtain ⟨e1, e2, e3⟩ := e
          unfold rawC at ga
          simp only [] at c0 c1 c2 ga
          clear he hc
          rcases g with _ | _
          · go_wp2_with fail
            refine (ga _).mono ?_
            rintro e w1 ⟨rfl, hb1'⟩
            go_wp2
            go_roundw
            case rel => exact ⟨k + 1, by omega, by go_num, below_chain hbr hb1'⟩
            case measure => simp [intOf]; omega
          · go_wp2_with fail
            refine (ga _).mono ?_
            rintro e w1 ⟨rfl, hb1'⟩
            go_wp2_with fail
            refine (law_happened _).mono ?_
            rintro e w2 ⟨rfl, hb2'⟩
            go_wp2
            go_ret
            exact ⟨rfl, below_chain hbr (below_chain hb1' hb2')⟩
        · have i1 : ¬ (k : Int) < n := by omega
          go_wp2_with fail
          go_loopw [6] (fun i w2 => ∃ j : Nat, j ≤ m ∧ i = .int .i64 (j : Int) ∧ Below w.heap.size w w2) (fun i _ => m - (intOf i).toNat)
          case atStart => exact ⟨0, by omega, rfl, hbr⟩
          case round =>
            obtain ⟨j, hj, rfl, hbi⟩ := hrel
            rename_i w2
            by_cases hlt : j < m
            · obtain ⟨e, he⟩ : ∃ e, b[j]? = some e := ⟨_, List.getElem?_eq_getElem (by have := HM.out; omega)⟩
              obtain ⟨b', off, rfl, -, hc⟩ := HLb.out (by have := HM.out; omega)
              obtain ⟨c0, c1, c2⟩ := hc j e he _ hbi
              have ga := fun w => raw_Great e w (Ob.out e (List.mem_of_getElem? he))
              have j1 : (j : Int) < m := by omega
              generalize greatV e = g at ga
              obtain ⟨e1, e2, e3⟩ := e
              unfold rawC at ga
              simp only [] at c0 c1 c2 ga
              clear he hc
              rcases g with _ | _
              · go_wp2_with fail
                refine (ga _).mono ?_
                rintro e w3 ⟨rfl, hb1'⟩
                go_wp2
                go_roundw
                case rel => exact ⟨j + 1, by omega, by go_num, below_chain hbi hb1'⟩
                case measure => simp [intOf]; omega
              · go_wp2_with fail
                refine (ga _).mono ?_
                rintro e w3 ⟨rfl, hb1'⟩
                go_wp2_with fail
                refine (law_happened _).mono ?_
                rintro e w4 ⟨rfl, hb2'⟩
                go_wp2
                go_ret
                exact ⟨rfl, below_chain hbi (below_chain hb1' hb2')⟩
            · have j1 : ¬ (j : Int) < m := by omega
              have la := Ha.out
              have lb' := Hb.out
              go_wp2_with fail
              refine (la _ hbi).mono ?_
              rintro y w3 ⟨va, rfl, ha3, hb3⟩
              have b3 := below_chain hbi hb3
              go_wp2_with fail
              refine (lb' _ b3).mono ?_
              rintro y w4 ⟨vb, rfl, hb4', hb4⟩
              have b4 := below_chain b3 hb4
              have E3 : Evs w4 va a := (evs_own (by rw [← HN.out]; exact ha3) Oa.out).next hb4
              have E4 : Evs w4 vb b := evs_own (by rw [← HM.out]; exact hb4') Ob.out
              clear ha3 hb4' hb3 b3
              go_wp2_with fail
              refine (events_All va vb a b _ E3 E4).mono ?_
              rintro y w5 ⟨rfl, hb5⟩
              have b5 := below_chain b4 hb5
              clear hb5 hb4 b4 E3 E4
              go_wp2_with fail
              refine (la _ b5).mono ?_
              rintro y w6 ⟨vc, rfl, hc6, hb6⟩
              have b6 := below_chain b5 hb6
              go_wp2_with fail
              refine (lb' _ b6).mono ?_
              rintro y w7 ⟨vd, rfl, hd7, hb7⟩
              have b7 := below_chain b6 hb7
              have E6 : Evs w7 vc a := (evs_own (by rw [← HN.out]; exact hc6) Oa.out).next hb7
              have E7 : Evs w7 vd b := evs_own (by rw [← HM.out]; exact hd7) Ob.out
              clear hc6 hd7 hb6 hb7 b5 b6
              go_wp2_with fail
              refine (ref_All vc vd a b _ E6 E7).mono ?_
              rintro y w8 ⟨rfl, hb8⟩
              have b8 := below_chain b7 hb8
              clear hb8 b7 E6 E7
              have eab : (decide (a = b) == decide (a = b)) = true := by simp
              generalize decide (a = b) = q at eab ⊢
              go_wp2_with fail
              refine (la _ b8).mono ?_
              rintro y w9 ⟨ve, rfl, he9, hb9⟩
              have b9 := below_chain b8 hb9
              go_wp2_with fail
              refine (la _ b9).mono ?_
              rintro y w10 ⟨vf, rfl, hf10, hb10⟩
              have b10 := below_chain b9 hb10
              have E9 : Evs w10 ve a := (evs_own (by rw [← HN.out]; exact he9) Oa.out).next hb10
              have E10 : Evs w10 vf a := evs_own (by rw [← HN.out]; exact hf10) Oa.out
              clear he9 hf10 hb9 hb10 b8 b9
              have hh := events_All ve vf a a w10 E9 E10
              rw [decide_eq_true (show a = a from rfl)] at hh
              go_wp2_with fail
              refine hh.mono ?_
              rintro y w11 ⟨rfl, hb11⟩
              clear hh E9 E10
              go_wp2_with fail
              refine (law_happened _).mono ?_
              rintro y w12 ⟨rfl, hb12⟩
              go_wp2
              go_ret
              exact ⟨rfl, below_chain b10 (below_chain hb11 hb12)⟩
end Go.Proofs.Ytiojapjidgjaoaa
