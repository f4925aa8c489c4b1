/-
  MODEL, the document's: how it lies in memory; Told; a stream's events; Last.
-/
import Derived.Test.YtmplabhofhllmaaMod4
import Derived.Test.YtmplabhofhllmaaModPage
namespace Go.Proofs.Ytmplabhofhllmaa
open Go.RowKit
set_option linter.unusedVariables false

def natsC (M : List Nat) : List Value := M.map fun (n : Nat) => .int .i64 (n : Int)
@[simp] theorem length_natsC (M : List Nat) : (natsC M).length = M.length := by simp [natsC]
/-- The document's model: to be read. -/
def RefR (w : World) (g : Nat) (vL vM : Value) (T : List Tld) (M : List Nat) (sure : Nat) : Prop :=
  Row w g 31 [vL, vM, .int .i64 (sure : Nat)] ∧ Tolds w vL T ∧ Reads w vM 1 M.length (natsC M)
theorem RefR.next {w w' : World} {g : Nat} {vL vM : Value} {T : List Tld} {M : List Nat} {sure : Nat} (h : RefR w g vL vM T M sure) (hb : Below w.heap.size w w') : RefR w' g vL vM T M sure :=
  ⟨h.1.next hb, h.2.1.next hb, h.2.2.next hb⟩
theorem RefR.cells {w : World} {g : Nat} {vL vM : Value} {T : List Tld} {M : List Nat} {sure : Nat} (h : RefR w g vL vM T M sure) : w.cell? ⟨g, 0, none⟩ = some vL ∧ w.cell? ⟨g, 1, none⟩ = some vM ∧ w.cell? ⟨g, 2, none⟩ = some (.int .i64 (sure : Nat)) := by
  have c0 := h.1.cell 0 (by simp)
  have c1 := h.1.cell 1 (by simp)
  have c2 := h.1.cell 2 (by simp)
  exact ⟨c0, c1, c2⟩
set_option maxHeartbeats 1000000 in
theorem refM_Told (x y : Tld) (w : World) (hx : okT x) (hy : okT y) :
    Calls Try.prog 26 #[.agg (toldA x), .agg (toldA y)] w fun e w' => e = .returned (.bool (decide (x = y))) ∧ Below w.heap.size w w' := by
  obtain ⟨s, f, t, d, n⟩ := x
  obtain ⟨s', f', t', d', n'⟩ := y
  have he := fun w => ref_Same (t, d, n) (t', d', n') w hx.2.2 hy.2.2
  have hz := lit2_below' w (.cells (toldA (s, f, t, d, n)) 48) (.cells (toldA (s', f', t', d', n')) 48)
  clear hx hy
  unfold toldA evC at *
  dsimp only at hz he ⊢
  by_cases h1 : s = s'
  · subst h1
    have e1 : (s.toList == s.toList) = true := by simp
    by_cases h2 : f = f'
    · subst h2
      have e2 : (f == f) = true := by simp
      have hd : decide ((s, f, t, d, n) = (s, f, t', d', n')) = decide ((t, d, n) = (t', d', n')) := by simp
      rw [hd]
      clear hd
      generalize decide ((t, d, n) = (t', d', n')) = bb at he ⊢
      go_enter Try.func26, Try.ntmps26
      go_wp2_with fail
      refine (he _).mono ?_
      rintro e w1 ⟨rfl, hb1⟩
      go_wp2
      go_ret
      exact ⟨rfl, below_chain hz hb1⟩
    · have e2 : (f == f') = false := by rw [beq_eq_false_iff_ne]; exact h2
      have hd : decide ((s, f, t, d, n) = (s, f', t', d', n')) = false := by simp [h2]
      rw [hd]
      go_enter Try.func26, Try.ntmps26
      go_wp2
      go_ret
      exact ⟨rfl, hz⟩
  · have e1 : (s.toList == s'.toList) = false := by rw [beq_eq_false_iff_ne, Ne, toList_inj]; exact h1
    have hd : decide ((s, f, t, d, n) = (s', f', t', d', n')) = false := by simp [h1]
    rw [hd]
    go_enter Try.func26, Try.ntmps26
    go_wp2
    go_ret
    exact ⟨rfl, hz⟩
set_option maxHeartbeats 2000000 in
theorem law_ToldL (va vb : Value) (a b : List Tld) (w : World) (ha : Tolds w va a) (hb : Tolds w vb b) (hn : a.length ≤ 1000000 ∧ b.length ≤ 1000000) :
    Calls Try.prog 11 #[va, vb] w fun e w' => e = .returned (.bool (decide (a = b))) ∧ Below w.heap.size w w' := by
  obtain ⟨A, c, rfl, -⟩ := id ha.1
  obtain ⟨A', c', rfl, -⟩ := id hb.1
  by_cases hl : a.length = b.length
  · obtain ⟨n, hna⟩ : ∃ n, n = a.length := ⟨_, rfl⟩
    have hn9 : n ≤ 1000000 := by omega
    have HNA := Lib.hid hna
    have HNB := Lib.hid (show n = b.length from by omega)
    have HA := Lib.hid ha
    have HB := Lib.hid hb
    rw [show b.length = n from by omega, show a.length = n from by omega]
    clear hl hn hna ha hb
    have e0 : ((n : Int) == n) = true := by simp
    go_enter Try.func11, Try.ntmps11
    go_wp2_with fail
    go_loopw [5] (fun i wr => ∃ k : Nat, k ≤ n ∧ i = .int .i64 (k : Int) ∧ (∀ m, m < k → a[m]? = b[m]?) ∧ Below w.heap.size w wr) (fun i _ => n - (intOf i).toNat)
    case atStart => exact ⟨0, by omega, rfl, fun m hm => by omega, Below.refl _ _⟩
    case round =>
      obtain ⟨k, hk, rfl, hall, hbr⟩ := hrel
      have Hall := Lib.hid hall
      have HBR := Lib.hid hbr
      clear hall
      by_cases hlt : k < n
      · have i1 : (k : Int) < n := by omega
        obtain ⟨x, hx⟩ : ∃ x, a[k]? = some x := ⟨_, List.getElem?_eq_getElem (by have := HNA.out; omega)⟩
        obtain ⟨y, hy⟩ : ∃ y, b[k]? = some y := ⟨_, List.getElem?_eq_getElem (by have := HNB.out; omega)⟩
        have ha9 := HA.out
        have hb9 := HB.out
        rw [show a.length = n from HNA.out.symm] at ha9
        rw [show b.length = n from HNB.out.symm] at hb9
        obtain ⟨bx, ox, rfl, -, hcx⟩ := ha9.later (by have := HNA.out; omega)
        obtain ⟨by_, oy, rfl, -, hcy⟩ := hb9.later (by have := HNB.out; omega)
        have cx := fun z : Later wr => hcx k x hx z.it (below_chain hbr z.ok)
        have cy := fun z : Later wr => hcy k y hy z.it (below_chain hbr z.ok)
        have cx0 := fun z => (cx z).1
        have cx1 := fun z => (cx z).2.1
        have cx2 := fun z => (cx z).2.2.1
        have cx3 := fun z => (cx z).2.2.2.1
        have cx4 := fun z => (cx z).2.2.2.2
        have cy0 := fun z => (cy z).1
        have cy1 := fun z => (cy z).2.1
        have cy2 := fun z => (cy z).2.2.1
        have cy3 := fun z => (cy z).2.2.2.1
        have cy4 := fun z => (cy z).2.2.2.2
        have hsm := fun w' => refM_Told x y w' (ha9.2 x (List.mem_of_getElem? hx)) (hb9.2 y (List.mem_of_getElem? hy))
        have Hx := Lib.hid hx
        have Hy := Lib.hid hy
        clear cx cy hcx hcy hx hy hbr ha9 hb9
        by_cases hxy : x = y
        · have hd : decide (x = y) = true := by simp [hxy]
          simp only [hd] at hsm
          have HXY := Lib.hid hxy
          obtain ⟨x1, x2, x3, x4, x5⟩ := x
          obtain ⟨y1, y2, y3, y4, y5⟩ := y
          dsimp only [toldA] at hsm cx0 cx1 cx2 cx3 cx4 cy0 cy1 cy2 cy3 cy4
          have HSM := Lib.hid hsm
          clear hsm hd hxy
          go_wp2_with fail
          refine wp_region_below (by kernel_rfl) (by kernel_rfl) ?_
          repeat (first | go_big_quiet_skip | (go_big_quiet_want; go_big_quiet_op; go_big_quiet_on) | (go_big_quiet_want; go_big_quiet_op; apply Exists.intro; refine ⟨fun x => ?_, ?_⟩; (go_at_call 26; exact calls_below x (HSM.out _)); go_big_quiet_on))
          refine wpQuiet_nil ?_
          intro _ hx
          obtain ⟨⟨w4, hb4⟩, rfl⟩ := hx
          go_wp2
          go_roundw
          case rel =>
            refine ⟨k + 1, by omega, by go_num, fun m hm => ?_, below_more HBR.out hb4 (Nat.le_refl _)⟩
            rcases Nat.lt_or_ge m k with h9 | h9
            · exact Hall.out m h9
            · obtain rfl : m = k := by omega
              rw [Hx.out, Hy.out, HXY.out]
          case measure => simp [intOf]; omega
        · have hd : decide (x = y) = false := by simp [hxy]
          simp only [hd] at hsm
          have hab : decide (a = b) = false := by
            rw [decide_eq_false_iff_not]
            rintro rfl
            have h8 := Hx.out
            rw [Hy.out] at h8
            exact hxy (Option.some.inj h8).symm
          have HAB := Lib.hid hab
          obtain ⟨x1, x2, x3, x4, x5⟩ := x
          obtain ⟨y1, y2, y3, y4, y5⟩ := y
          dsimp only [toldA] at hsm cx0 cx1 cx2 cx3 cx4 cy0 cy1 cy2 cy3 cy4
          have HSM := Lib.hid hsm
          clear hsm hd hxy hab
          go_wp2_with fail
          refine wp_region_below (by kernel_rfl) (by kernel_rfl) ?_
          repeat (first | go_big_quiet_skip | (go_big_quiet_want; go_big_quiet_op; go_big_quiet_on) | (go_big_quiet_want; go_big_quiet_op; apply Exists.intro; refine ⟨fun x => ?_, ?_⟩; (go_at_call 26; exact calls_below x (HSM.out _)); go_big_quiet_on))
          refine wpQuiet_nil ?_
          intro _ hx
          obtain ⟨⟨w4, hb4⟩, rfl⟩ := hx
          go_wp2
          go_ret
          rw [HAB.out]
          exact ⟨rfl, below_more HBR.out hb4 (Nat.le_refl _)⟩
      · obtain rfl : k = n := by omega
        have hab : decide (a = b) = true := by
          rw [decide_eq_true_iff]
          apply List.ext_getElem?
          intro m
          rcases Nat.lt_or_ge m k with h9 | h9
          · exact Hall.out m h9
          · rw [List.getElem?_eq_none (by rw [← HNA.out]; exact h9), List.getElem?_eq_none (by rw [← HNB.out]; exact h9)]
        have HAB := Lib.hid hab
        clear hab hbr
        go_wp2
        go_ret
        rw [HAB.out]
        exact ⟨rfl, HBR.out⟩
  · have e0 : ((a.length : Int) == b.length) = false := by rw [beq_eq_false_iff_ne]; omega
    have e1 : ¬ (a.length : Int) = b.length := by omega
    have hd : decide (a = b) = false := by rw [decide_eq_false_iff_not]; rintro rfl; exact hl rfl
    have HD := Lib.hid hd
    clear ha hb hn hd hl
    go_enter Try.func11, Try.ntmps11
    go_wp2
    go_ret
    rw [HD.out]
    exact ⟨rfl, Below.refl _ _⟩
end Go.Proofs.Ytmplabhofhllmaa
