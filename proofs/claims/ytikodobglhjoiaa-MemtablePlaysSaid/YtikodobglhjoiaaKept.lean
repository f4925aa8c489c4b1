/-
  The tables' law's own examples hold.
-/
import Derived.Test.YtikodobglhjoiaaTabAdd
import Derived.Test.YtikodobglhjoiaaEntered
namespace Go.Proofs.Ytikodobglhjoiaa
open Go.RowKit
set_option linter.unusedVariables false

theorem grown_trans {a b c : World} {r : Option Nat} (h1 : a.grownBy b r) (h2 : b.grownBy c r) : a.grownBy c r :=
  ⟨h2.os.trans h1.os, h2.tape.trans h1.tape, h2.output.trans h1.output, Nat.le_trans h1.size h2.size, fun k hk hne => (h2.block k (Nat.lt_of_lt_of_le hk h1.size) hne).trans (h1.block k hk hne)⟩
theorem grown_cell {a b : World} {g : Nat} (h : a.grownBy b (some g)) {p : Addr} (hp : p.block < a.heap.size) (hne : p.block ≠ g) : b.cell? p = a.cell? p :=
  World.cell?_of_block (w := a) (h.block p.block hp (fun e => hne (by cases e; rfl)))
def exA : Ent := (5, 0, 12)
def exB : Ent := (3, 1, 40)
theorem add_ex {w : World} {base g : Nat} {v : Value} {l : List Ent} (h : TabV w base g v l) (e : Ent) (he : okE e) (hn : l.length ≤ 10) (hbase : base ≤ w.heap.size) (m : List Ent) (r : Bool) (hm : insE l e = m) (hr : addB l e = r) :
    Calls Try.prog 39 #[.pointer (some ⟨g, 0, none⟩), .agg (entC e)] w fun x w' => x = .returned (.bool r) ∧ ∃ v', TabV w' base g v' m ∧ w.grownBy w' (some g) := by
  refine (tab_Add h e he (by omega) hbase).mono ?_
  rintro x w' ⟨rfl, v', h1, h2, -⟩
  rw [hm] at h1
  exact ⟨by rw [hr], v', h1, h2⟩
theorem last_ex {w : World} {base g : Nat} {v : Value} {l : List Ent} (h : TabV w base g v l) (x : Nat) (t : Int) (hx : x < 100) (ht : 0 ≤ t ∧ t < 100) (hl : lastE l x t = none) :
    Calls Try.prog 37 #[.pointer (some ⟨g, 0, none⟩), .int .u64 x, .int .i64 t] w fun e w' => e = .returned (.tuple #[.agg #[.int .u64 0, .int .i64 0, .int .i64 0], .bool false]) ∧ Below w.heap.size w w' := by
  have c := tab_Last h x t (by omega) (by omega)
  rw [hl] at c
  exact c
theorem len_ex {w : World} {base g : Nat} {v : Value} {l : List Ent} (h : TabV w base g v l) (n : Nat) (hn : l.length = n) :
    Calls Try.prog 41 #[.pointer (some ⟨g, 0, none⟩)] w fun e w' => e = .returned (.int .i64 (n : Nat)) ∧ w = w' := by
  rw [← hn]; exact tab_Len h

set_option maxHeartbeats 2000000 in
theorem law_kept (w : World) :
    Calls Try.prog 25 #[] w fun e w' => e = .returned (.bool true) ∧ Below w.heap.size w w' := by
  go_enter Try.func25, Try.ntmps25
  go_wp2_with fail
  have hz := lit2_below w (.cells #[.int .u64 5, .int .i64 0, .int .i64 12] 25) (.cells #[.int .u64 3, .int .i64 1, .int .i64 40] 25)
  have esz : (w.alloc (.cells #[.int .u64 5, .int .i64 0, .int .i64 12] 25)).heap.size = w.heap.size + 1 := by simp
  have esz2 : ((w.alloc (.cells #[.int .u64 5, .int .i64 0, .int .i64 12] 25)).alloc (.cells #[.int .u64 3, .int .i64 1, .int .i64 40] 25)).heap.size = w.heap.size + 2 := by simp
  have bxa := fun w' hb => ent_box w (5, 0, 12) 25 w' (below_chain (below_lit (w.alloc (.cells #[.int .u64 5, .int .i64 0, .int .i64 12] 25)) (.cells #[.int .u64 3, .int .i64 1, .int .i64 40] 25)) hb)
  have bxb := fun w' hb => ent_box (w.alloc (.cells #[.int .u64 5, .int .i64 0, .int .i64 12] 25)) (3, 1, 40) 25 w' hb
  rw [esz] at bxb
  refine (tab_New _).mono ?_
  rintro e w1 ⟨rfl, hT, hb1⟩
  have hx1 := bxa w1 hb1
  have hx2 := bxb w1 hb1
  have hlt := hb1.size
  rw [esz2] at hT hlt ⊢
  have hw1 : Below w.heap.size w w1 := below_chain hz hb1
  obtain ⟨g, hg⟩ : ∃ g, g = w.heap.size + 2 := ⟨_, rfl⟩
  rw [← hg] at hT ⊢
  have HS := Lib.hid (show ∀ w', w1.grownBy w' (some g) → w1.grownBy w' (some g) ∧ w'.cell? ⟨w.heap.size, 0, none⟩ = some (.int .u64 5) ∧ w'.cell? ⟨w.heap.size, 1, none⟩ = some (.int .i64 0) ∧ w'.cell? ⟨w.heap.size, 2, none⟩ = some (.int .i64 12) ∧ w'.cell? ⟨w.heap.size + 1, 0, none⟩ = some (.int .u64 3) ∧ w'.cell? ⟨w.heap.size + 1, 1, none⟩ = some (.int .i64 1) ∧ w'.cell? ⟨w.heap.size + 1, 2, none⟩ = some (.int .i64 40) from fun w' hg' => by
    have hc : ∀ b o, b < w.heap.size + 2 → w'.cell? ⟨b, o, none⟩ = w1.cell? ⟨b, o, none⟩ := fun b o hb => grown_cell hg' (show b < w1.heap.size by omega) (show b ≠ g by omega)
    refine ⟨hg', ?_, ?_, ?_, ?_, ?_, ?_⟩
    · rw [hc _ _ (by omega)]; exact hx1.1
    · rw [hc _ _ (by omega)]; exact hx1.2.1
    · rw [hc _ _ (by omega)]; exact hx1.2.2
    · rw [hc _ _ (by omega)]; exact hx2.1
    · rw [hc _ _ (by omega)]; exact hx2.2.1
    · rw [hc _ _ (by omega)]; exact hx2.2.2)
  have hgw : w.heap.size ≤ g := by omega
  have hgs : g ≤ w1.heap.size := by omega
  clear hg hx1 hx2 bxa bxb esz esz2 hz hb1 hlt
  have G0 : w1.grownBy w1.drew (some g) := Below.to_grown (Below.refl _ _).drew _
  have hT0 : TabV w1.drew g g (.slice none 0 0) [] := hT.next (Below.refl _ _).drew
  go_wp2_with fail
  go_region_held3 (fun w' => w1.grownBy w' (some g) ∧ w'.cell? ⟨w.heap.size, 0, none⟩ = some (.int .u64 5) ∧ w'.cell? ⟨w.heap.size, 1, none⟩ = some (.int .i64 0) ∧ w'.cell? ⟨w.heap.size, 2, none⟩ = some (.int .i64 12) ∧ w'.cell? ⟨w.heap.size + 1, 0, none⟩ = some (.int .u64 3) ∧ w'.cell? ⟨w.heap.size + 1, 1, none⟩ = some (.int .i64 1) ∧ w'.cell? ⟨w.heap.size + 1, 2, none⟩ = some (.int .i64 40))
    (first | (exact HS.out _ G6) | (exact HS.out _ (grown_trans G5 (Below.to_grown (below_lit _ _) _))) | (exact HS.out _ G5) | (exact HS.out _ (grown_trans G3 (Below.to_grown (below_lit _ _) _))) | (exact HS.out _ G3) | (exact HS.out _ G2) | (exact HS.out _ G1) | (exact HS.out _ G0) | fail)
    (first
      | (go_at_call 21; refine (ex_Same _ vd _ [exB, exA] [exB, exA] true (by first | exact hD | exact hD.next (below_lit _ _)) (by first | exact ents_two _ exB exA (by simp [okE, exB]) (by simp [okE, exA]) | exact (ents_two _ exB exA (by simp [okE, exB]) (by simp [okE, exA])).next hbD) (by decide)).mono ?_; rintro e w7 ⟨rfl, hb⟩; have hb7 : Below w6.heap.size w6 w7 := (by first | exact hb | exact below_chain (below_lit w6 _) hb); have G6 := grown_trans G5 (Below.to_grown hb7 _); have T6 := T5.next hb7)
      | (go_at_call 27; refine (tab_Dump (by first | exact T3 | exact T3.next (below_lit _ _)) (by decide)).mono ?_; rintro e w6 ⟨vd, rfl, hown, hbD⟩; have hD : Ents w6 vd [exB, exA] := ⟨Reads.of_own hown, T3.2.2.1⟩; have hb46 : Below w4.heap.size w4 w6 := (by first | exact hbD | exact below_chain (below_lit w4 _) hbD); have G5 := grown_trans G3 (Below.to_grown hb46 _); have T5 := T3.next hb46)
      | (go_at_call 41; refine (len_ex T3 2 rfl).mono ?_; rintro e w' ⟨rfl, rfl⟩)
      | (go_at_call 39; refine (add_ex T2 exA (by simp [okE, exA]) (by decide) (Nat.le_trans hgs G2.size) [exB, exA] false (by decide) (by decide)).mono ?_; rintro e w4 ⟨rfl, v4, T3, hb⟩; have G3 := grown_trans G2 hb)
      | (go_at_call 39; refine (add_ex T1 exB (by simp [okE, exB]) (by decide) (Nat.le_trans hgs G1.size) [exB, exA] true (by decide) (by decide)).mono ?_; rintro e w3 ⟨rfl, v3, T2, hb⟩; have G2 := grown_trans G1 hb)
      | (go_at_call 39; refine (add_ex hT0 exA (by simp [okE, exA]) (by decide) (Nat.le_trans hgs G0.size) [exA] true (by decide) (by decide)).mono ?_; rintro e w2 ⟨rfl, v2, T1, hb⟩; have G1 := grown_trans G0 hb)
      | fail)
  all_goals
    go_wp2_with fail
    refine (tab_Clear T6).mono ?_
    rintro e w8 ⟨rfl, T7, hg8⟩
    have G7 := grown_trans G6 hg8
    go_wp2_with fail
    refine (last_ex T7 5 9 (by omega) (by omega) rfl).mono ?_
    rintro e w9 ⟨rfl, hb9⟩
    have T8 := (T7.next hb9).next (below_lit w9 (.cells #[.int .u64 0, .int .i64 0, .int .i64 0] 25))
    have G8 := grown_trans G7 (Below.to_grown (below_chain hb9 (below_lit w9 (.cells #[.int .u64 0, .int .i64 0, .int .i64 0] 25))) _)
    go_wp2_with fail
    refine (len_ex T8 0 rfl).mono ?_
    rintro e w' ⟨rfl, rfl⟩
    go_wp2
    go_ret
    exact ⟨rfl, hw1.grown G8 hw1.size (fun k hk => by cases hk; exact hgw)⟩
end Go.Proofs.Ytikodobglhjoiaa
