/-
  Rows.TablesBackSaid: what is put is got, and has as many bytes as are told; each entry's bytes stand at its place.
-/
import Derived.Test.YtikodobglhjoiaaTablesTell
import Derived.Test.YtikodobglhjoiaaTablesLaw2
namespace Go.Proofs.Ytikodobglhjoiaa
open Go.RowKit
set_option linter.unusedVariables false

set_option maxHeartbeats 2000000 in
theorem TablesBack_walk (v0 : Value) (l : List Ent) (w : World) (hl : Ents w v0 l) :
    Calls Try.prog 12 #[v0] w fun e w' => e = .returned (.bool true) ∧ Below w.heap.size w w' := by
  obtain ⟨⟨A, c, rfl, -, -, -, -⟩, -⟩ := id hl
  by_cases h1 : 100 < l.length
  · have h1' : (100 : Int) < l.length := by omega
    go_enter Try.func12, Try.ntmps12
    go_wp2_with fail
    refine (law_laid _).mono ?_
    rintro e w1 ⟨rfl, hb1⟩
    go_wp2
    go_ret
    exact ⟨rfl, hb1⟩
  · have h1' : ¬ (100 : Int) < l.length := by omega
    obtain ⟨m1, m2, m3⟩ := made_may l
    have hmade := law_Made (.slice A l.length c) l w hl (by omega)
    generalize sortE (l.map modE) = M at m1 m2 m3 hmade
    obtain ⟨t1, t2, t3, t4⟩ := tab_put m1 m2 (by omega)
    have hE : errT M = 0 := by unfold errT; rw [m1]; rfl
    have hP := fun v w h => tables_Put v M w h (by omega)
    have hG := fun w => tables_Get (bs (putT M)) w (by rw [size_bs]; omega)
    have hte : tabE (putT M) = 0 := by unfold tabE; rw [t1]; rfl
    have hS := fun w => tables_Size (M.length : Nat) w (by omega)
    have hSz : sizeT (M.length : Nat) = ((12 + 24 * M.length : Nat) : Int) := by unfold sizeT; rw [if_neg (by omega)]; omega
    rw [hE] at hP
    simp only [lb_bs, hte, t2] at hG
    rw [hSz] at hS
    generalize putT M = T at hP hG t3 t4
    obtain ⟨n, hN⟩ : ∃ n, n = M.length := ⟨_, rfl⟩
    rw [← hN] at t3 hS m3
    have hn : n ≤ 100 := by omega
    have hx : ∀ k e, M[k]? = some e → (bs T).extract (8 + 24 * k) (8 + 24 * k + 24) = bs (putEnt e) := fun k e hk => by
      rw [bs_extract, lb_bs, Nat.add_sub_cancel_left, t4 k e hk]
    have HN := Lib.hid hN
    have Hx := Lib.hid hx
    have HG := Lib.hid hG
    have Hm2 := Lib.hid m2
    clear t4 hE hte hSz t1 t2 hx m1 hN hG m2
    clear h1
    go_enter Try.func12, Try.ntmps12
    go_wp2_with fail
    refine hmade.mono ?_
    rintro e w1 ⟨v1, rfl, hown, hb1⟩
    have hE1 : Ents w1 v1 M := ⟨Reads.of_own hown, Hm2.out⟩
    obtain ⟨⟨A1, c1, rfl, q1, q2, -, -⟩, -⟩ := id hE1
    rw [← HN.out] at q1 ⊢
    unfold maxLen at q2
    have hlater := fun h0 => hE1.later h0
    rw [← HN.out] at hE1 hlater
    have Hl := Lib.hid hlater
    clear hlater hown
    go_wp2_with fail
    refine (hP _ _ hE1).mono ?_
    rintro e w2 ⟨rfl, hb2⟩
    go_wp2_with fail
    refine (HG.out _).mono ?_
    rintro e w3 ⟨v3, rfl, hT3, hb3⟩
    have e1 := (hE1.next hb2).next hb3
    have e3 := hT3.ents
    have hb13 := below_chain hb2 hb3
    clear hT3 hP hE1 hb2 hb3
    go_wp2_with fail
    refine (ex_Same18 _ _ _ M e1 e3).mono ?_
    rintro e w4 ⟨rfl, hb4⟩
    have hb14 := below_chain hb13 hb4
    clear hb13 hb4 e1 e3
    go_wp2_with fail
    refine (hS _).mono ?_
    rintro e w' ⟨rfl, rfl⟩
    clear hS
    have t3I : (T.length : Int) = 12 + 24 * (n : Int) := by omega
    go_wp2_with fail
    go_loopw [8] (fun i wr => ∃ k : Nat, k ≤ n ∧ i = .int .i64 k ∧ Below w1.heap.size w1 wr) (fun i _ => n - (intOf i).toNat)
    case atStart => exact ⟨0, by omega, rfl, hb14⟩
    case round =>
      obtain ⟨k, hk, rfl, hbr⟩ := hrel
      by_cases hlt : k < n
      · obtain ⟨e, he⟩ : ∃ e, M[k]? = some e := ⟨_, List.getElem?_eq_getElem (by rw [← HN.out]; exact hlt)⟩
        obtain ⟨b, off, rfl, -, hc⟩ := Hl.out (by omega)
        have oe : okE e := Hm2.out e (List.mem_of_getElem? he)
        have hx := Hx.out k e he
        have hcc := fun x : Later wr => hc k e he x.it (below_chain hbr x.ok)
        have hc0 := fun x => (hcc x).1
        have hc1 := fun x => (hcc x).2.1
        have hc2 := fun x => (hcc x).2.2
        have hA := fun w => tables_At (k : Nat) w (by omega)
        have hAt : atT (k : Nat) = ((8 + 24 * k : Nat) : Int) := by unfold atT; rw [if_neg (by omega)]; omega
        rw [hAt] at hA
        have i1 : (k : Int) < n := by omega
        obtain ⟨a, ha⟩ : ∃ a, a = 8 + 24 * k := ⟨_, rfl⟩
        rw [← ha] at hA hx
        have a1 : a + 24 ≤ T.length := by omega
        have a2 : IntKind.i64.wrap ((a : Int) + 24) = ((a + 24 : Nat) : Int) := by rw [IntKind.wrap_i64]; omega
        have a0 : ¬ (a : Int) < 0 := by omega
        have a0f : decide ((a : Int) < 0) = false := decide_eq_false a0
        have a3 : ¬ (T.length : Int) < ((a + 24 : Nat) : Int) := by omega
        have a3f : decide ((T.length : Int) < ((a + 24 : Nat) : Int)) = false := decide_eq_false a3
        have a4 : ¬ (T.length : Int) < (a : Int) + 24 := by omega
        have a4f : decide ((T.length : Int) < (a : Int) + 24) = false := decide_eq_false a4
        have a5f : decide (12 + 24 * (n : Int) < (a : Int) + 24) = false := decide_eq_false (by omega)
        have a5 : ¬ (12 + 24 * (n : Int) < (a : Int) + 24) := by omega
        have Ha := Lib.hid ha
        clear hAt hcc he hc ha
        go_wp2_with fail
        refine (hA _).mono ?_
        rintro y w' ⟨rfl, rfl⟩
        go_wp2_with fail
        refine wp_region_below (by kernel_rfl) (by kernel_rfl) ?_
        repeat (first | go_big_quiet_skip | (go_big_quiet_want; go_big_quiet_op; go_big_quiet_on) | (go_big_quiet_want; go_big_quiet_op; apply Exists.intro; refine ⟨fun x => ?_, ?_⟩; (first | (go_at_call 32; exact calls_below x (entries_Put e _ oe))); go_big_quiet_on))
        refine wpQuiet_nil ?_
        intro _ hx
        obtain ⟨⟨w5, hb5⟩, rfl⟩ := hx
        go_wp2
        go_roundw
        case rel => exact ⟨k + 1, by omega, by go_num, below_chain hbr hb5⟩
        case measure => simp [intOf]; omega
      · have i1 : ¬ (k : Int) < n := by omega
        go_wp2_with fail
        refine (law_laid _).mono ?_
        rintro y w5 ⟨rfl, hb5⟩
        go_wp2
        go_ret
        exact ⟨rfl, below_chain hb1 (below_chain hbr hb5)⟩
end Go.Proofs.Ytikodobglhjoiaa
