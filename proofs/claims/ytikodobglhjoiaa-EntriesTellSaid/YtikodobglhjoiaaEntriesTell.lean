/-
  Rows.EntriesTellSaid: how two entries stand to each other, their bytes, and the entry of any bytes, are the document's.
-/
import Derived.Test.YtikodobglhjoiaaOpenEnt
import Derived.Test.YtikodobglhjoiaaEntered
namespace Go.Proofs.Ytikodobglhjoiaa
open Go.RowKit
set_option linter.unusedVariables false

set_option maxHeartbeats 1000000 in
theorem EntriesTell_walk (v0 : Value) (a : Ent) (v1 : Value) (b : Ent) (s : ByteArray) (w : World) (h0 : EntIs v0 a) (h1 : EntIs v1 b) (hs : s.size ≤ maxLen) :
    Calls Try.prog 5 #[v0, v1, .string s] w fun e w' => e = .returned (.bool true) ∧ Below w.heap.size w w' := by
  obtain ⟨rfl, ha⟩ := h0
  obtain ⟨rfl, hb⟩ := h1
  have hz := lit2_below w (.cells (entC a) 25) (.cells (entC b) 25)
  have bxa := fun w' hb => ent_box w a 25 w' (below_chain (below_lit (w.alloc (.cells (entC a) 25)) (.cells (entC b) 25)) hb)
  have bxb := fun w' hb => ent_box (w.alloc (.cells (entC a) 25)) b 25 w' hb
  unfold maxLen at hs
  by_cases hlen : s.size ≤ 100
  · have i1 : ¬ (100 : Int) < s.size := by omega
    have cg := entries_Get s (w := (w.alloc (.cells (entC a) 25)).alloc (.cells (entC b) 25)) (by unfold maxLen; omega)
    have cr := fun w => ref_entGet s w (by unfold maxLen; omega)
    generalize okG (lb s) = og at cg cr
    generalize getE (lb s) = g at cg cr
    go_enter Try.func5, Try.ntmps5
    go_wp2_with fail
    refine cg.mono ?_
    rintro e w1 ⟨rfl, hb1⟩
    obtain ⟨g1, g2, g3⟩ := g
    unfold entC
    go_wp2_with fail
    refine (cr _).mono ?_
    rintro e w2 ⟨rfl, hb2⟩
    unfold entC
    go_wp2_with fail
    have k1 := below_lit w1 (.cells (entC (g1, g2, g3)) 25)
    have k2 := below_lit w2 (.cells (entC (g1, g2, g3)) 25)
    have kk := below_chain hb2 k2
    have kw := below_chain hb1 (below_chain k1 kk)
    have esz : (w.alloc (.cells (entC a) 25)).heap.size = w.heap.size + 1 := by simp
    rw [esz] at bxb
    have fa := fun x : Later (w2.alloc (.cells (entC (g1, g2, g3)) 25)) => bxa x.it (below_chain kw x.ok)
    have fb := fun x : Later (w2.alloc (.cells (entC (g1, g2, g3)) 25)) => bxb x.it (below_chain kw x.ok)
    have fc := fun x : Later (w2.alloc (.cells (entC (g1, g2, g3)) 25)) => ent_box w1 (g1, g2, g3) 25 x.it (below_chain kk x.ok)
    have fd := fun x : Later (w2.alloc (.cells (entC (g1, g2, g3)) 25)) => ent_box w2 (g1, g2, g3) 25 x.it x.ok
    have fa0 := fun x => (fa x).1
    have fa1 := fun x => (fa x).2.1
    have fa2 := fun x => (fa x).2.2
    have fb0 := fun x => (fb x).1
    have fb1 := fun x => (fb x).2.1
    have fb2 := fun x => (fb x).2.2
    have fc0 := fun x => (fc x).1
    have fc1 := fun x => (fc x).2.1
    have fc2 := fun x => (fc x).2.2
    have fd0 := fun x => (fd x).1
    have fd1 := fun x => (fd x).2.1
    have fd2 := fun x => (fd x).2.2
    have cl := fun w => entries_Less a b w ha hb
    have cl2 := fun w => ref_Less a b w ha hb
    have cp := fun w => entries_Put a w ha
    have cp2 := fun w => ref_entPut a w ha
    generalize lessE a b = lx at cl cl2
    generalize bs (putEnt a) = px at cp cp2
    have kall := below_chain hz kw
    clear fa fb fc fd bxa bxb cg cr
    unfold entC at fa0 fa1 fa2 fb0 fb1 fb2 fc0 fc1 fc2 fd0 fd1 fd2 cl cl2 cp cp2 kall
    refine wp_region_below (by kernel_rfl) (by kernel_rfl) ?_
    repeat (first | go_big_quiet_skip | (go_big_quiet_want; go_big_quiet_op; go_big_quiet_on) | (go_big_quiet_want; go_big_quiet_op; apply Exists.intro; refine ⟨fun x => ?_, ?_⟩; (first | (go_at_call 30; exact calls_below x (cl _)) | (go_at_call 31; exact calls_below x (cl2 _)) | (go_at_call 32; exact calls_below x (cp _)) | (go_at_call 33; exact calls_below x (cp2 _)) | (go_at_call 14; exact calls_below x (law_entered _))); go_big_quiet_on))
    refine wpQuiet_nil ?_
    intro _ hx
    obtain ⟨⟨w3, hb3⟩, rfl⟩ := hx
    go_wp2
    go_ret
    exact ⟨rfl, below_chain kall hb3⟩
  · have i1 : (100 : Int) < s.size := by omega
    go_enter Try.func5, Try.ntmps5
    go_wp2_with fail
    refine (law_entered _).mono ?_
    rintro e w1 ⟨rfl, hb1⟩
    go_wp2
    go_ret
    exact ⟨rfl, below_chain hz hb1⟩
end Go.Proofs.Ytikodobglhjoiaa
