/-
  MODEL: one that is none; one that is made, as it lies in memory; New, Many, All.
-/
import Derived.Test.YtmplabhofhllmaaMod0
namespace Go.Proofs.Ytmplabhofhllmaa
open Go.RowKit
set_option linter.unusedVariables false

def NoneV (w : World) (v : Value) : Prop := v = .pointer none ∨ ∃ g a b, v = .pointer (some ⟨g, 0, none⟩) ∧ Row w g 56 [.bool false, a, b]
theorem NoneV.next {w w' : World} {v : Value} (h : NoneV w v) (hb : Below w.heap.size w w') : NoneV w' v := by
  rcases h with h | ⟨g, a, b, h, hr⟩
  · exact .inl h
  · exact .inr ⟨g, a, b, h, hr.next hb⟩
theorem NoneV.ptr {w : World} {v : Value} (h : NoneV w v) : ∃ o, v = .pointer o := by
  rcases h with h | ⟨g, a, b, h, hr⟩ <;> exact ⟨_, h⟩
theorem model_none_yes (v : Value) (w : World) (h : NoneV w v) :
    Calls Try.prog 27 #[v] w fun e w' => e = .returned (.bool true) ∧ w = w' := by
  rcases h with rfl | ⟨g, a, b, rfl, hr⟩
  · go_enter Try.func27, Try.ntmps27
    go_wp2
    go_ret
    exact ⟨rfl, rfl⟩
  · have c0 := hr.cell 0 (by simp)
    simp only [List.getElem_cons_zero] at c0
    go_enter Try.func27, Try.ntmps27
    go_wp2
    go_ret
    exact ⟨rfl, rfl⟩
theorem model_none_no (g : Nat) (a b : Value) (w : World) (hr : Row w g 56 [.bool true, a, b]) :
    Calls Try.prog 27 #[.pointer (some ⟨g, 0, none⟩)] w fun e w' => e = .returned (.bool false) ∧ w = w' := by
  have c0 := hr.cell 0 (by simp)
  simp only [List.getElem_cons_zero] at c0
  go_enter Try.func27, Try.ntmps27
  go_wp2
  go_ret
  exact ⟨rfl, rfl⟩
abbrev BatP := Value × Bat
def batL (p : BatP) : List Value := [.string p.2.1, .int .i64 p.2.2.1, p.1]
def batA (p : BatP) : Array Value := #[.string p.2.1, .int .i64 p.2.2.1, p.1]
theorem batL_len (p : BatP) : (batL p).length = 3 := rfl
def batsC (L : List BatP) : List Value := L.flatMap batL
theorem batsC_append (a b : List BatP) : batsC (a ++ b) = batsC a ++ batsC b := List.flatMap_append
theorem length_batsC (L : List BatP) : (batsC L).length = L.length * 3 := by
  unfold batsC
  induction L with
  | nil => rfl
  | cons a l ih => rw [List.flatMap_cons, List.length_append, ih, batL_len, List.length_cons]; omega
/-- A model that is made: to be read. -/
def ModR (w : World) (g : Nat) (v : Value) (L : List BatP) (sure : Nat) : Prop :=
  Row w g 56 [.bool true, v, .int .i64 (sure : Nat)] ∧ Reads w v 3 L.length (batsC L) ∧ ∀ p ∈ L, Evs w p.1 p.2.2.2 ∧ fineB p.2
theorem ModR.next {w w' : World} {g : Nat} {v : Value} {L : List BatP} {sure : Nat} (h : ModR w g v L sure) (hb : Below w.heap.size w w') : ModR w' g v L sure :=
  ⟨h.1.next hb, h.2.1.next hb, fun p hp => ⟨(h.2.2 p hp).1.next hb, (h.2.2 p hp).2⟩⟩
theorem ModR.cells {w : World} {g : Nat} {v : Value} {L : List BatP} {sure : Nat} (h : ModR w g v L sure) : w.cell? ⟨g, 0, none⟩ = some (.bool true) ∧ w.cell? ⟨g, 1, none⟩ = some v ∧ w.cell? ⟨g, 2, none⟩ = some (.int .i64 (sure : Nat)) := by
  have c0 := h.1.cell 0 (by simp)
  have c1 := h.1.cell 1 (by simp)
  have c2 := h.1.cell 2 (by simp)
  exact ⟨c0, c1, c2⟩
theorem BatV.of {w : World} {p : BatP} (h : Evs w p.1 p.2.2.2) (hf : fineB p.2) : BatV w (.agg (batA p)) p.2 := by
  obtain ⟨⟨A, c, h1, h2⟩, h3⟩ := id h
  have hr := hf.range
  refine ⟨A, c, by unfold batA; rw [h1], by rw [← h1]; exact h, hf.1.1, by omega, by omega⟩
def allL (L : List BatP) : List Tld := L.flatMap fun p => toldB p.2
theorem allL_append (a b : List BatP) : allL (a ++ b) = allL a ++ allL b := List.flatMap_append
theorem allL_take {L : List BatP} {k : Nat} {p : BatP} (h : L[k]? = some p) : allL (L.take (k + 1)) = allL (L.take k) ++ toldB p.2 := by
  rw [List.take_add_one, h]
  show allL (L.take k ++ [p]) = _
  rw [allL_append]
  simp [allL]
theorem allL_len {L : List BatP} (h : ∀ p ∈ L, fineB p.2) : (allL L).length ≤ L.length * 8 := by
  induction L with
  | nil => simp [allL]
  | cons p l ih =>
    have h1 := (h p (by simp)).range
    have h2 := ih (fun q hq => h q (by simp [hq]))
    unfold allL at h2 ⊢
    rw [List.flatMap_cons, List.length_append, toldB_len, List.length_cons]
    omega
theorem allL_ok {L : List BatP} (h : ∀ p ∈ L, fineB p.2) : ∀ t ∈ allL L, okT t := by
  intro t ht
  obtain ⟨p, hp, h2⟩ := List.mem_flatMap.1 ht
  exact (h p hp).told t h2
theorem model_New (w : World) : Calls Try.prog 8 #[] w fun e w' => e = .returned (.pointer (some ⟨w.heap.size, 0, none⟩)) ∧ w' = w.alloc (.cells #[.bool true, .slice none 0 0, .int .i64 0] 56) := by
  go_enter Try.func8, Try.ntmps8
  go_wp2
  go_ret
  exact ⟨rfl, rfl⟩
theorem ModR.bats {w : World} {g : Nat} {A : Option Addr} {n c : Nat} {L : List BatP} {sure : Nat} (h : ModR w g (.slice A n c) L sure) (h0 : 0 < L.length) : ∃ b off, A = some ⟨b, off, none⟩ ∧ b < w.heap.size ∧
    ∀ (i : Nat) (p : BatP), L[i]? = some p → ∀ w' : World, Below w.heap.size w w' → w'.cell? ⟨b, off + i * 3, none⟩ = some (.string p.2.1) ∧ w'.cell? ⟨b, off + i * 3 + 1, none⟩ = some (.int .i64 p.2.2.1) ∧ w'.cell? ⟨b, off + i * 3 + 2, none⟩ = some p.1 := by
  obtain ⟨b, off, hA, hlt, hc⟩ := (Reads.each batL_len h.2.1).2.2.2 h0
  refine ⟨b, off, hA, hlt, fun i e hi w' hb => ?_⟩
  have h := hc i e hi w' hb
  exact ⟨by simpa [batL] using h 0 (by omega), by simpa [batL, Nat.add_assoc] using h 1 (by omega), by simpa [batL, Nat.add_assoc] using h 2 (by omega)⟩
set_option maxHeartbeats 1000000 in
theorem model_Many (g : Nat) (v : Value) (L : List BatP) (sure : Nat) (w : World) (h : ModR w g v L sure) (hL : L.length ≤ 1000000) :
    Calls Try.prog 22 #[.pointer (some ⟨g, 0, none⟩)] w fun e w' => e = .returned (.tuple #[.int .i64 (L.length : Nat), .int .i64 (sure : Nat)]) ∧ Below w.heap.size w w' := by
  obtain ⟨A, c, rfl, -⟩ := id h.2.1
  have HN := model_none_no g _ _ w h.1
  have z0 : ∀ x : Later w, x.it.cell? ⟨g, 0, none⟩ = some (.bool true) := fun x => (h.next x.ok).cells.1
  have z1 : ∀ x : Later w, x.it.cell? ⟨g, 1, none⟩ = some (.slice A L.length c) := fun x => (h.next x.ok).cells.2.1
  have z2 : ∀ x : Later w, x.it.cell? ⟨g, 2, none⟩ = some (.int .i64 (sure : Nat)) := fun x => (h.next x.ok).cells.2.2
  clear h
  go_enter Try.func22, Try.ntmps22
  go_wp2_with fail
  refine HN.mono ?_
  rintro e w' ⟨rfl, rfl⟩
  go_wp2_with fail
  refine wp_region_below (by kernel_rfl) (by kernel_rfl) ?_
  repeat (first | go_big_quiet_skip | (go_big_quiet_want; go_big_quiet_op; go_big_quiet_on) | (go_big_quiet_want; go_big_quiet_op; apply Exists.intro; refine ⟨fun x => ?_, ?_⟩; (fail); go_big_quiet_on))
  refine wpQuiet_nil ?_
  intro _ hx
  obtain ⟨⟨w3, hb3⟩, rfl⟩ := hx
  go_wp2
  go_ret2
  exact ⟨rfl, hb3⟩
set_option maxHeartbeats 2000000 in
theorem model_All (g : Nat) (v : Value) (L : List BatP) (sure : Nat) (w : World) (h : ModR w g v L sure) (hL : L.length ≤ 100000) :
    Calls Try.prog 17 #[.pointer (some ⟨g, 0, none⟩)] w fun e w' => ∃ v', e = .returned v' ∧ w'.ownsRow w.heap.size 48 5 v' (allL L).length (toldsC (allL L)) ∧ Below w.heap.size w w' := by
  obtain ⟨A, c, rfl, hc1, hc2, -⟩ := id h.2.1
  have HN := model_none_no g _ _ w h.1
  obtain ⟨z0, z1, z2⟩ := h.cells
  have hB := fun h0 => h.bats h0
  have HP := Lib.hid h.2.2
  have hfin := allL_len (fun p hp => (h.2.2 p hp).2)
  obtain ⟨i0, hi0, hz0, hz1, hz2⟩ := info_parts infoTold
  obtain ⟨n, hn⟩ : ∃ n, n = L.length := ⟨_, rfl⟩
  rw [← hn] at hL hc1 hB z1
  have HNN := Lib.hid hn
  have HB := Lib.hid hB
  clear hn hB h z0 z2 hfin
  go_enter Try.func17, Try.ntmps17
  go_wp2_with fail
  refine HN.mono ?_
  rintro e w' ⟨rfl, rfl⟩
  clear HN
  go_wp2_with fail
  go_loopw [3, 14] (fun o i wr => ∃ k m : Nat, k ≤ n ∧ m ≤ k * 8 ∧ i = .int .i64 (k : Int) ∧ wr.ownsRow w.heap.size 48 5 o m (toldsC (allL (L.take k))) ∧ (allL (L.take k)).length = m ∧ Below w.heap.size w wr) (fun _ i _ => n - (intOf i).toNat)
  case atStart => exact ⟨0, 0, by omega, by omega, rfl, World.ownsRow_nil _ _ _ _, rfl, Below.refl _ _⟩
  case round =>
    obtain ⟨k, m, hk, hm, rfl, hown, hmm, hbr⟩ := hrel
    clear z1
    by_cases hlt : k < n
    · obtain ⟨p, hp⟩ : ∃ p, L[k]? = some p := ⟨_, List.getElem?_eq_getElem (by have := HNN.out; omega)⟩
      have hst := allL_take hp
      obtain ⟨hEv, hfine⟩ := HP.out p (List.mem_of_getElem? hp)
      obtain ⟨b, off, rfl, hlt0, hcell⟩ := HB.out (by have := HNN.out; omega)
      obtain ⟨c0, c1, c2⟩ := hcell k p hp wr hbr
      have hbv := BatV.of hEv hfine
      have hr := hfine.range
      obtain ⟨pv, ps, pf, pl⟩ := p
      dsimp only at hEv
      obtain ⟨A9, c9, rfl, -⟩ := id hEv.1
      dsimp only [batA] at c0 c1 c2 hbv hr
      have i1 : (k : Int) < n := by omega
      have hzA : Below wr.heap.size wr (wr.alloc (.cells #[.string ps, .int .i64 pf, .slice A9 pl.length c9] 65)) := lit_below wr _
      have ct := model_told _ _ _ ((hbv.next hbr).next hzA) (by simp only []; omega) (by simp only []; omega)
      have Hst := Lib.hid hst
      have Hmm := Lib.hid hmm
      have Hown := Lib.hid hown
      have Hzz := Lib.hid hzA
      have Hct := Lib.hid ct
      have Hr := Lib.hid hr
      clear hp hcell hst hown hzA hfine hbv hEv hmm ct hr
      go_wp2_with fail
      refine Hct.out.mono ?_
      rintro e w3 ⟨vt, rfl, hot, hb3⟩
      have hbr3 := below_chain hbr (below_chain Hzz.out hb3)
      have hown3 := own_next Hown.out (below_chain Hzz.out hb3)
      have Hown3 := Lib.hid hown3
      have Hot := Lib.hid (Reads.of_own hot)
      clear hown3 hot Hct
      have Hbr := Lib.hid hbr3
      go_wp2_with (first
        | (at_builtin; refine wpList_append_reads _ rfl _ _ 28 rfl w.heap.size 48 i0 _ 5 64 Try.underlying28 hi0 hz0 hz1 hz2 rfl (by decide) _ m _ rfl Hown3.out _ pl.length _ rfl Hot.out (toldsC_one _) (by have := Hr.out; unfold maxLen; omega) (by have := Hr.out; omega) Hbr.out.size ?_; intro v3 w4 hown4 hg4))
      have hb4 := Hbr.out.grown hg4 Hbr.out.size (own_block_ge Hown3.out)
      go_wp2
      go_roundw
      case rel =>
        refine ⟨k + 1, m + pl.length, by omega, by have := Hr.out; omega, by go_num, ?_, ?_, hb4⟩
        · rw [Hst.out, toldsC_append]
          exact hown4
        · rw [Hst.out, List.length_append, Hmm.out, toldB_len]
      case measure => simp [intOf]; omega
    · obtain rfl : k = n := by omega
      rw [List.take_of_length_le (by rw [← HNN.out]; exact Nat.le_refl _)] at hown hmm
      have Hown := Lib.hid hown
      have Hmm := Lib.hid hmm
      clear hown hmm
      go_wp2
      go_ret
      have h9 := Hown.out
      rw [← Hmm.out] at h9
      exact ⟨_, rfl, h9, hbr⟩
end Go.Proofs.Ytmplabhofhllmaa
