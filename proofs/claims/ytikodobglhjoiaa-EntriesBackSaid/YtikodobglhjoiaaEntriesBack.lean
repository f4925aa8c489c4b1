/-
  Rows.EntriesBackSaid: what is put of an entry that may be is got as it; entries that may be stand to each other as their bytes do.
-/
import Derived.Test.YtikodobglhjoiaaOpenEnt
import Derived.Test.YtikodobglhjoiaaEntered
import Derived.Test.YtikodobglhjoiaaEntPlain
namespace Go.Proofs.Ytikodobglhjoiaa
open Go.RowKit
set_option linter.unusedVariables false

set_option maxHeartbeats 1000000 in
theorem EntriesBack_walk (v0 : Value) (a : Ent) (v1 : Value) (b : Ent) (w : World) (h0 : EntIs v0 a) (h1 : EntIs v1 b) :
    Calls Try.prog 6 #[v0, v1] w fun e w' => e = .returned (.bool true) ∧ Below w.heap.size w w' := by
  obtain ⟨rfl, ha⟩ := h0
  obtain ⟨rfl, hb⟩ := h1
  have hz := lit2_below w (.cells (entC a) 25) (.cells (entC b) 25)
  have bxa := fun w' hb => ent_box w a 25 w' (below_chain (below_lit (w.alloc (.cells (entC a) 25)) (.cells (entC b) 25)) hb)
  have bxb := fun w' hb => ent_box (w.alloc (.cells (entC a) 25)) b 25 w' hb
  have esz : (w.alloc (.cells (entC a) 25)).heap.size = w.heap.size + 1 := by simp
  rw [esz] at bxb
  have fa0 := fun x : Later ((w.alloc (.cells (entC a) 25)).alloc (.cells (entC b) 25)) => (bxa x.it x.ok).1
  have fa1 := fun x : Later ((w.alloc (.cells (entC a) 25)).alloc (.cells (entC b) 25)) => (bxa x.it x.ok).2.1
  have fa2 := fun x : Later ((w.alloc (.cells (entC a) 25)).alloc (.cells (entC b) 25)) => (bxa x.it x.ok).2.2
  have fb0 := fun x : Later ((w.alloc (.cells (entC a) 25)).alloc (.cells (entC b) 25)) => (bxb x.it x.ok).1
  have fb1 := fun x : Later ((w.alloc (.cells (entC a) 25)).alloc (.cells (entC b) 25)) => (bxb x.it x.ok).2.1
  have fb2 := fun x : Later ((w.alloc (.cells (entC a) 25)).alloc (.cells (entC b) 25)) => (bxb x.it x.ok).2.2
  have ca := fun w => entries_Put a w ha
  have cb := fun w => entries_Put b w hb
  have Bxa := Lib.hid bxa
  have Bxb := Lib.hid bxb
  clear bxa bxb
  unfold entC at fa0 fa1 fa2 fb0 fb1 fb2 ca cb hz
  go_enter Try.func6, Try.ntmps6
  go_wp2_with fail
  unfold entC
  refine wp_region_below (by kernel_rfl) (by kernel_rfl) ?_
  repeat (first | go_big_quiet_skip | (go_big_quiet_want; go_big_quiet_op; go_big_quiet_on) | (go_big_quiet_want; go_big_quiet_op; apply Exists.intro; refine ⟨fun x => ?_, ?_⟩; (first | (go_at_call 32; first | with_reducible exact calls_below x (ca _) | with_reducible exact calls_below x (cb _))); go_big_quiet_on))
  refine wpQuiet_nil ?_
  intro _ hx
  obtain ⟨⟨w1, hb1⟩, rfl⟩ := hx
  rename_i w1
  clear fa0 fa1 fa2 fb0 fb1 fb2
  go_wp2_with fail
  have hk1 := below_chain hz hb1
  rcases hm : mayE a with _ | _
  · have hp := putEnt_no hm
    have hm' := of_decide_eq_false hm
    rw [hp]
    have cg := entries_Get (bs []) w1 (by simp [maxLen])
    rw [lb_bs] at cg
    refine cg.mono ?_
    rintro e w2 ⟨rfl, hb2⟩
    have e1 : entC (getE []) = #[.int .u64 0, .int .i64 0, .int .i64 0] := rfl
    have e2 : okG [] = false := rfl
    rw [e1, e2]
    have k2 := below_lit w2 (.cells #[.int .u64 0, .int .i64 0, .int .i64 0] 25)
    have hk2 := below_chain hk1 (below_chain hb2 k2)
    obtain ⟨c0, c1, c2⟩ := Bxa.out _ (below_chain hb1 (below_chain hb2 k2))
    clear cg ca cb
    by_cases g1 : 0 ≤ a.2.1
    · have g2 : ¬ (0 ≤ a.2.2) := fun h => hm' ⟨g1, h⟩
      go_wp2_with fail
      refine (law_entered _).mono ?_
      rintro e w3 ⟨rfl, hb3⟩
      go_wp2
      go_ret
      exact ⟨rfl, below_chain hk2 hb3⟩
    · go_wp2_with fail
      refine (law_entered _).mono ?_
      rintro e w3 ⟨rfl, hb3⟩
      go_wp2
      go_ret
      exact ⟨rfl, below_chain hk2 hb3⟩
  · have hm' := of_decide_eq_true hm
    obtain ⟨g1, g2⟩ := hm'
    obtain ⟨p1, p2⟩ := getE_put ha hm
    have hlen := putEnt_length hm
    have cg := entries_Get (bs (putEnt a)) w1 (by rw [size_bs, hlen]; simp [maxLen])
    rw [lb_bs, p1, p2] at cg
    have hless := fun hm2 => putEnt_less ha hb hm hm2
    have heq := fun hm2 => putEnt_eq ha hb hm hm2
    generalize putEnt a = la at cg hlen hless heq ⊢
    generalize putEnt b = lb' at hless heq ⊢
    refine cg.mono ?_
    rintro e w2 ⟨rfl, hb2⟩
    unfold entC
    have k2 := below_lit w2 (.cells (entC a) 25)
    have hk2 := below_chain hk1 (below_chain hb2 k2)
    have kk := below_chain hb1 (below_chain hb2 k2)
    have Ga := Lib.hid (fun w' (hb : Below (w2.alloc (.cells (entC a) 25)).heap.size (w2.alloc (.cells (entC a) 25)) w') => Bxa.out w' (below_chain kk hb))
    have Gb := Lib.hid (fun w' (hb : Below (w2.alloc (.cells (entC a) 25)).heap.size (w2.alloc (.cells (entC a) 25)) w') => Bxb.out w' (below_chain kk hb))
    have Gx := Lib.hid (fun w' (hb : Below (w2.alloc (.cells (entC a) 25)).heap.size (w2.alloc (.cells (entC a) 25)) w') => ent_box w2 a 25 w' hb)
    obtain ⟨c0, c1, c2⟩ := Ga.out _ (Below.refl _ _)
    obtain ⟨d0, d1, d2⟩ := Gb.out _ (Below.refl _ _)
    obtain ⟨x0, x1, x2⟩ := Gx.out _ (Below.refl _ _)
    have Hless := Lib.hid hless
    have Heq := Lib.hid heq
    clear cg ca cb hless heq Bxa Bxb
    unfold entC at c0 c1 c2 d0 d1 d2 x0 x1 x2
    by_cases n1 : 0 ≤ b.2.1
    · by_cases n2 : 0 ≤ b.2.2
      · have mb : mayE b = true := decide_eq_true ⟨n1, n2⟩
        have hless := Hless.out mb
        have heq := Heq.out mb
        have cl := fun w => entries_Less a b w ha hb
        rw [← hless] at cl
        unfold entC at cl
        have hbe : (la == lb') = (decide (a.1 = b.1) && (decide (a.2.1 = b.2.1) && decide (a.2.2 = b.2.2))) := by
          rw [Bool.eq_iff_iff]; simp; exact heq
        go_wp2_with fail
        refine (cl _).mono ?_
        rintro e w3 ⟨rfl, hb3⟩
        have hb3' : Below (w2.alloc (.cells (entC a) 25)).heap.size (w2.alloc (.cells (entC a) 25)) w3 := hb3
        obtain ⟨c0', c1', c2'⟩ := Ga.out _ hb3'
        obtain ⟨d0', d1', d2'⟩ := Gb.out _ hb3'
        have hk3 := below_chain hk2 hb3
        clear c0 c1 c2 d0 d1 d2 x0 x1 x2 heq cl
        go_wp2_with fail
        refine (law_entered _).mono ?_
        rintro e w4 ⟨rfl, hb4⟩
        go_wp2
        go_ret
        exact ⟨rfl, below_chain hk3 hb4⟩
      · go_wp2_with fail
        refine (law_entered _).mono ?_
        rintro e w3 ⟨rfl, hb3⟩
        go_wp2
        go_ret
        exact ⟨rfl, below_chain hk2 hb3⟩
    · go_wp2_with fail
      refine (law_entered _).mono ?_
      rintro e w3 ⟨rfl, hb3⟩
      go_wp2
      go_ret
      exact ⟨rfl, below_chain hk2 hb3⟩
end Go.Proofs.Ytikodobglhjoiaa
