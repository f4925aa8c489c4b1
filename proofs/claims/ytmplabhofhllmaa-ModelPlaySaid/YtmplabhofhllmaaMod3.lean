/-
  MODEL: one that may be written; Append.
-/
import Derived.Test.YtmplabhofhllmaaMod2
import Derived.Test.YtmplabhofhllmaaKeep
import Derived.Deep.RegionLaw
namespace Go.Proofs.Ytmplabhofhllmaa
open Go.RowKit
set_option linter.unusedVariables false

def FullB (w : World) (base : Nat) (v : Value) (n : Nat) (xs : List Value) : Prop := ∃ b, v = .slice (some ⟨b, 0, none⟩) n n ∧ base ≤ b ∧ Row w b 65 xs ∧ xs.length = n * 3 ∧ n ≤ maxLen
def ModW (w : World) (base g : Nat) (v : Value) (L : List BatP) (sure : Nat) : Prop :=
  Row w g 56 [.bool true, v, .int .i64 (sure : Nat)] ∧ base ≤ g ∧ (w.ownsRow base 65 3 v L.length (batsC L) ∨ FullB w base v L.length (batsC L)) ∧
    ∀ p ∈ L, w.ownsRow base 46 3 p.1 p.2.2.2.length (p.2.2.2.flatMap evL) ∧ fineB p.2
theorem FullB.next {w w' : World} {base n : Nat} {v : Value} {xs : List Value} (h : FullB w base v n xs) (hb : Below w.heap.size w w') : FullB w' base v n xs := by
  obtain ⟨b, h1, h2, h3, h4⟩ := h
  exact ⟨b, h1, h2, h3.next hb, h4⟩
theorem ModW.next {w w' : World} {base g : Nat} {v : Value} {L : List BatP} {sure : Nat} (h : ModW w base g v L sure) (hb : Below w.heap.size w w') : ModW w' base g v L sure :=
  ⟨h.1.next hb, h.2.1, h.2.2.1.elim (fun h9 => .inl (own_next h9 hb)) (fun h9 => .inr (h9.next hb)), fun p hp => ⟨own_next (h.2.2.2 p hp).1 hb, (h.2.2.2 p hp).2⟩⟩
theorem FullB.reads {w : World} {base n : Nat} {v : Value} {xs : List Value} (h : FullB w base v n xs) : Reads w v 3 n xs := by
  obtain ⟨b, rfl, h2, h3, h4, h5⟩ := h
  exact Reads.of_row h3 h4 (Nat.le_refl _) h5
theorem ModW.r {w : World} {base g : Nat} {v : Value} {L : List BatP} {sure : Nat} (h : ModW w base g v L sure) : ModR w g v L sure :=
  ⟨h.1, h.2.2.1.elim (fun h9 => Reads.of_own h9) (fun h9 => h9.reads), fun p hp => ⟨⟨Reads.of_own (h.2.2.2 p hp).1, fun e he => (h.2.2.2 p hp).2.1.2.2 e he⟩, (h.2.2.2 p hp).2⟩⟩
theorem types_neM : (65 : TypeId) ≠ 56 ∧ (46 : TypeId) ≠ 56 ∧ (46 : TypeId) ≠ 65 := ⟨by decide, by decide, by decide⟩
/-- What is wrong with an Append. -/
def appE (L : List BatP) (s : ByteArray) (x : Int) (l : List Ev) : Int :=
  if checkB (s, 0, l) ≠ 0 then checkB (s, 0, l) else if x < -2 then 2 else if x ≠ -2 ∧ x ≠ lastL L s then 80 else checkB (s, lastL L s + 1, l)
theorem evC_one (l : List Ev) : ∀ u ∈ l.flatMap evL, u.oneCell' = true := by
  intro u hu
  obtain ⟨t, -, h⟩ := List.mem_flatMap.1 hu
  unfold evL at h
  simp only [List.mem_cons, List.not_mem_nil, or_false] at h
  rcases h with rfl | rfl | rfl <;> rfl
theorem batC_one {w : World} {L : List BatP} (h : ∀ p ∈ L, Evs w p.1 p.2.2.2) : ∀ u ∈ batsC L, u.oneCell' = true := by
  intro u hu
  obtain ⟨p, hp, h9⟩ := List.mem_flatMap.1 hu
  unfold batL at h9
  simp only [List.mem_cons, List.not_mem_nil, or_false] at h9
  obtain ⟨⟨A, c, h1, -⟩, -⟩ := h p hp
  rcases h9 with rfl | rfl | rfl
  · rfl
  · rfl
  · rw [h1]; rfl
theorem bat_lit (w : World) (p : BatP) : Reads (w.alloc (.cells (batA p) 65)) (.slice (some ⟨w.heap.size, 0, none⟩) 1 1) 3 1 (batsC [p]) := by
  have := Reads.of_row (size := 3) (n := 1) (cap := 1) (Row.new w (batA p) 65) rfl (Nat.le_refl _) (by unfold maxLen; omega)
  simpa [batA, batsC, batL] using this
theorem checkB_stream {s : ByteArray} {f : Int} {l : List Ev} (h : checkB (s, f, l) = 0) : streamOk s = true := by
  have := checkB_parts h
  unfold streamOk
  simp only [] at this
  simp; omega
/-- The program's Append, where it is refused. -/
def AppNo (w : World) (c : Int) (e : Ending) (w' : World) : Prop := e = .returned (.tuple #[.int .i64 0, .int .i64 c]) ∧ Below w.heap.size w w'
def AppYes (w : World) (base g : Nat) (v : Value) (L : List BatP) (sure : Nat) (s : ByteArray) (f : Int) (l : List Ev) (e : Ending) (w' : World) : Prop :=
  e = .returned (.tuple #[.int .i64 f, .int .i64 0]) ∧ ∃ v' pe, ModW w' base g v' (L ++ [(pe, (s, f, l))]) sure ∧ Keep2 w w' g v.ownBlock ∧ (v'.ownBlock = v.ownBlock ∨ ∀ k, v'.ownBlock = some k → w.heap.size ≤ k) ∧ ∀ k, pe.ownBlock = some k → w.heap.size ≤ k
/-- The block that an append may write in: none, or the list's own. -/
def RowOf (w : World) (base : Nat) (v : Value) (L : List BatP) (r : Option Nat) : Prop := r = none ∨ (r = v.ownBlock ∧ w.ownsRow base 65 3 v L.length (batsC L))
theorem RowOf.ne {w : World} {base : Nat} {v : Value} {L : List BatP} {r : Option Nat} (h : RowOf w base v L r) {k : Nat} {t : TypeId} {xs : List Value} (hr : Row w k t xs) (hne : 65 ≠ t) : some k ≠ r := by
  rcases h with rfl | ⟨rfl, h⟩
  · exact fun h => by cases h
  · exact fun h9 => own_other h hr hne k h9.symm rfl
theorem RowOf.lt {w : World} {base : Nat} {v : Value} {L : List BatP} {r : Option Nat} (h : RowOf w base v L r) {k : Nat} (hk : w.heap.size ≤ k) : some k ≠ r := by
  rcases h with rfl | ⟨rfl, h⟩
  · exact fun h => by cases h
  · intro h9
    have := own_lt h k h9.symm
    omega
theorem RowOf.next {w w' : World} {base : Nat} {v : Value} {L : List BatP} {r : Option Nat} (h : RowOf w base v L r) (hb : Below w.heap.size w w') : RowOf w' base v L r := by
  rcases h with rfl | ⟨rfl, h⟩
  · exact .inl rfl
  · exact .inr ⟨rfl, own_next h hb⟩
theorem own_grown {w w' : World} {base n size : Nat} {e : TypeId} {v : Value} {xs : List Value} {r : Option Nat} (h : w.ownsRow base e size v n xs) (hg : w.grownBy w' r) (hr : ∀ k, v.ownBlock = some k → some k ≠ r) : w'.ownsRow base e size v n xs :=
  own_keepR h (fun k hk => hg.block k (own_lt h k hk) (hr k hk))
theorem app_yes {w w8 w2 : World} {base g : Nat} {v v2 pe : Value} {L : List BatP} {sure : Nat} {s : ByteArray} {f : Int} {l : List Ev} {r : Option Nat} (hB : Below w.heap.size w w8) (H : ModW w base g v L sure) (hbase : base ≤ w.heap.size)
    (hr : RowOf w base v L r) (hg : w8.grownBy w2 r) (hown : w2.ownsRow base 65 3 v2 (L.length + 1) (batsC L ++ batsC [(pe, (s, f, l))])) (hev : w8.ownsRow w.heap.size 46 3 pe l.length (l.flatMap evL)) (hf : fineB (s, f, l))
    (hat : v2.ownBlock = v.ownBlock ∨ ∀ k, v2.ownBlock = some k → w.heap.size ≤ k) :
    AppYes w base g v L sure s f l (.returned (.tuple #[.int .i64 f, .int .i64 0])) (w2.setCell ⟨g, 1, none⟩ v2) := by
  have h8 := H.next hB
  have hr8 := hr.next hB
  have hrow2 : Row w2 g 56 [.bool true, v, .int .i64 (sure : Nat)] := h8.1.grown hg (hr8.ne h8.1 types_neM.1)
  have hev2 : ∀ (q : Value) (b n : Nat) (xs : List Value), w8.ownsRow b 46 3 q n xs → (w2.setCell ⟨g, 1, none⟩ v2).ownsRow b 46 3 q n xs := fun q b n xs hq => by
    have h2 := own_grown hq hg (fun k hk => hr8.ne (own_row hq hk) (fun h => types_neM.2.2 h.symm))
    exact own_keepR h2 (fun k hk => Below.heap_setCell _ _ _ _ (own_other h2 hrow2 types_neM.2.1 k hk))
  refine ⟨rfl, v2, pe, ⟨hrow2.set 1 v2, H.2.1, .inl ?_, ?_⟩, ?_, hat, own_block_ge hev⟩
  · rw [List.length_append, batsC_append]
    exact own_keepR hown (fun k hk => Below.heap_setCell _ _ _ _ (own_other hown hrow2 types_neM.1 k hk))
  · intro p hp
    rcases List.mem_append.1 hp with hp | hp
    · exact ⟨hev2 _ _ _ _ (h8.2.2.2 p hp).1, (h8.2.2.2 p hp).2⟩
    · rw [List.mem_singleton.1 hp]
      exact ⟨own_baseM (hev2 _ _ _ _ hev) hbase, hf⟩
  · refine Keep2.trans (Keep2.of_below hB g v.ownBlock) (Keep2.trans ?_ (Keep2.of_set 1 _ _))
    rcases hr with rfl | ⟨rfl, -⟩
    · exact ⟨hg.os, hg.tape, hg.output, hg.size, fun k hk _ _ => hg.block k hk (by simp)⟩
    · exact Keep2.of_grown hg g
theorem Reads.drewM {w : World} {v : Value} {s n : Nat} {xs : List Value} (h : Reads w v s n xs) : Reads w.drew v s n xs := h
set_option maxRecDepth 100000 in
set_option maxHeartbeats 4000000 in
theorem model_Append {w : World} {base g : Nat} {v : Value} {L : List BatP} {sure : Nat} (h : ModW w base g v L sure) (s : ByteArray) (x : Int) (ve : Value) (l : List Ev) (hl : Evs w ve l) (hn : l.length ≤ 1000000) (hs : s.size ≤ maxLen) (hL : L.length ≤ 10000) (hbase : base ≤ w.heap.size) (hx : -9223372036854775808 ≤ x ∧ x ≤ 9223372036854775807) :
    Calls Try.prog 20 #[.pointer (some ⟨g, 0, none⟩), .string s, .int .i64 x, ve] w fun e w' =>
      (appE L s x l ≠ 0 → AppNo w (appE L s x l) e w') ∧ (appE L s x l = 0 → AppYes w base g v L sure s (lastL L s + 1) l e w') := by
  obtain ⟨A, c, rfl, -⟩ := id hl.1
  obtain ⟨Av, cv, rfl, hcv1, hcv2, -⟩ := id h.r.2.1
  obtain ⟨i0, hi0, hz0, hz1, hz2⟩ := info_parts infoEv
  obtain ⟨j0, hj0, hy0, hy1, hy2⟩ := info_parts infoBat
  have hown0 : w.ownsRow w.heap.size 46 3 (.slice none 0 0) 0 [] := World.ownsRow_nil _ _ _ _
  have hone := evC_one l
  have hlast : -1 ≤ lastL L s ∧ lastL L s ≤ 80000 := by
    have := streamL_len (fun p hp => (h.2.2.2 p hp).2) s
    unfold lastL; omega
  have Hl := Lib.hid hl
  have H := Lib.hid h
  have Hone := Lib.hid hone
  clear h hl hone
  go_enter Try.func20, Try.ntmps20
  go_wp2_with (first
    | (at_builtin; refine wpList_append_reads _ rfl _ _ 32 rfl w.heap.size 46 i0 _ 3 40 Try.underlying32 hi0 hz0 hz1 hz2 rfl (by decide) _ 0 _ rfl hown0 _ _ _ rfl Hl.out.1 Hone.out (by unfold maxLen; omega) (by omega) (Nat.le_refl _) ?_; intro v3 w3 hown3 hg3; rw [Nat.zero_add, List.nil_append] at hown3; obtain ⟨A3, c3, rfl, -⟩ := Reads.of_own hown3))
  have hb3 : Below w.heap.size w w3 := (Below.refl _ _).grown hg3 (Nat.le_refl _) (own_block_ge hown0)
  have hz := lit_below w3 (.cells #[.string s, .int .i64 0, .slice A3 l.length c3] 65)
  have hbv : BatV w3 (.agg #[.string s, .int .i64 0, .slice A3 l.length c3]) (s, 0, l) := ⟨A3, c3, rfl, ⟨Reads.of_own hown3, Hl.out.2⟩, hs, by simp only []; omega, by simp only []; omega⟩
  have hbw := below_chain hb3 hz
  have hR := Row.new w3 #[.string s, .int .i64 0, .slice A3 l.length c3] 65
  have hRw : w.heap.size ≤ w3.heap.size := hb3.size
  have hown4 := own_next hown3 hz
  have hbv4 := hbv.next hz
  clear hbv
  generalize hR0 : w3.heap.size = R at *
  generalize (w3.alloc (.cells #[.string s, .int .i64 0, .slice A3 l.length c3] 65)) = w4 at *
  clear hz hb3 hg3 hown3 hown0 hR0
  refine (batches_Check _ _ _ hbv4).mono ?_
  rintro e w5 ⟨rfl, hb5⟩
  have hbw5 := below_chain hbw hb5
  have HN := model_none_no g _ _ w5 (H.out.1.next hbw5)
  have hR5 := hR.next hb5
  have hbv5 := hbv4.next hb5
  have hown5 := own_next hown4 hb5
  have H5 := Lib.hid (H.out.next hbw5)
  clear hbv4 hown4 hR hb5 hbw
  by_cases hc : checkB (s, 0, l) = 0
  · have hso := checkB_stream hc
    have HB5 := Lib.hid hbw5
    have HR5 := Lib.hid hR5
    have HV5 := Lib.hid hbv5
    have HO5 := Lib.hid hown5
    have HC := Lib.hid hc
    have HSO := Lib.hid hso
    have hcc : (checkB (s, 0, l) == 0) = true := by rw [beq_iff_eq]; exact hc
    rw [hc]
    clear hcc hbw5 hR5 hbv5 hown5 hc hso
    by_cases hx2 : x < -2
    · have hap : appE L s x l = 2 := by unfold appE; rw [if_neg (by rw [HC.out]; decide), if_pos hx2]
      have Hap := Lib.hid hap
      clear hap
      go_wp2_with fail
      refine HN.mono ?_
      rintro e w' ⟨rfl, rfl⟩
      go_wp2
      go_ret2
      rw [Hap.out]
      exact ⟨fun _ => ⟨rfl, HB5.out⟩, fun h => absurd h (by decide)⟩
    · have HX2 := Lib.hid hx2
      have cl := model_Last g _ L sure s w5 H5.out.r (by omega) hs
      rw [if_pos HSO.out] at cl
      go_wp2_with fail
      refine HN.mono ?_
      rintro e w' ⟨rfl, rfl⟩
      clear HN
      go_wp2_with fail
      refine cl.mono ?_
      rintro e w6 ⟨rfl, hb6⟩
      clear cl
      obtain ⟨z, hz⟩ : ∃ z, z = lastL L s := ⟨_, rfl⟩
      rw [← hz] at hlast ⊢
      have HZ := Lib.hid hz
      clear hz
      have hbw6 := below_more HB5.out hb6 (Nat.le_refl _)
      by_cases hx3 : x = -2 ∨ x = z
      · have hapZ : appE L s x l = checkB (s, z + 1, l) := by unfold appE; rw [if_neg (by rw [HC.out]; decide), if_neg (by have := HX2.out; omega), if_neg (by rw [← HZ.out]; omega), HZ.out]
        have HAP := Lib.hid hapZ
        have hR6 := HR5.out.next hb6
        have hfz := hR6.frozen 1 (by simp)
        have hc1 := hR6.cell 1 (by simp)
        simp only [List.getElem_cons_zero, List.getElem_cons_succ] at hc1
        have hR7 := hR6.set 1 (.int .i64 (z + 1))
        have hb7 := hbw6.setCell (p := ⟨R, 1, none⟩) hRw (.int .i64 (z + 1))
        have hown6 := own_next HO5.out hb6
        have hown7 := own_keepR hown6 (w' := w6.setCell ⟨R, 1, none⟩ (.int .i64 (z + 1))) (fun k hk => Below.heap_setCell _ _ _ _ (own_other hown6 hR6 types_neM.2.2 k hk))
        have hH7 := H.out.next hb7
        have hbv7 : BatV (w6.setCell ⟨R, 1, none⟩ (.int .i64 (z + 1))) (.agg #[.string s, .int .i64 (z + 1), .slice A3 l.length c3]) (s, z + 1, l) := ⟨A3, c3, rfl, ⟨Reads.of_own hown7, Hl.out.2⟩, hs, by simp only []; omega, by simp only []; omega⟩
        have hq0 := hR7.cell 0 (by simp)
        have hq1 := hR7.cell 1 (by simp)
        have hq2 := hR7.cell 2 (by simp)
        simp only [List.set_cons_succ, List.set_cons_zero, List.getElem_cons_zero, List.getElem_cons_succ] at hq0 hq1 hq2
        have hwr : IntKind.i64.wrap (z + 1) = z + 1 := by rw [IntKind.wrap_i64]; omega
        have HR7 := Lib.hid hR7
        have HB7 := Lib.hid hb7
        have HO7 := Lib.hid hown7
        have H7 := Lib.hid hH7
        have HV7 := Lib.hid hbv7
        clear hapZ hR6 hR7 hb7 hown6 hown7 hH7 hbv7 H5 HR5 HV5 HO5 hb6
        have hxx : (x != -2) = false ∨ ((x != -2) = true ∧ (x != z) = false) := by
          rcases (show x = -2 ∨ (x ≠ -2 ∧ x = z) from by omega) with hx4 | ⟨hx4, hx5⟩
          · exact .inl (by rw [bne_eq_false_iff_eq]; exact hx4)
          · exact .inr ⟨by rw [bne_iff_ne]; exact hx4, by rw [bne_eq_false_iff_eq]; exact hx5⟩
        clear hx3 hx2
        rcases hxx with hx6 | ⟨hx6, hx7⟩
        all_goals
          go_wp2_with fail
          generalize (w6.setCell ⟨R, 1, none⟩ (.int .i64 (z + 1))) = w7 at *
          refine (batches_Put _ _ _ HV7.out).mono ?_
          rintro e w8 ⟨rfl, hb8⟩
          have hH8 := H7.out.next hb8
          have hR8 := HR7.out.next hb8
          have hO8 := own_next HO7.out hb8
          have hB8 := below_more HB7.out hb8 (Nat.le_refl _)
          by_cases hc2 : checkB (s, z + 1, l) = 0
          · rw [hc2]
            have HC2 := Lib.hid hc2
            have HR8 := Lib.hid hR8
            have HO8 := Lib.hid hO8
            have HB8 := Lib.hid hB8
            have hgR : g ≠ R := by have := H.out.1.lt; omega
            have hRg : R ≠ g := fun h => hgR h.symm
            have hsz8 := hB8.size
            have HF := Lib.hid (fun w' (hb : Below w8.heap.size w8 w') => (hH8.1.next hb).frozen 1 (by simp))
            have hcg := fun w' (hb : Below w8.heap.size w8 w') => (hH8.1.next hb).cell 1 (by simp)
            have hcr0 := fun w' (hb : Below w8.heap.size w8 w') => (hR8.next hb).cell 0 (by simp)
            have hcr1 := fun w' (hb : Below w8.heap.size w8 w') => (hR8.next hb).cell 1 (by simp)
            have hcr2 := fun w' (hb : Below w8.heap.size w8 w') => (hR8.next hb).cell 2 (by simp)
            simp only [List.set_cons_succ, List.set_cons_zero, List.getElem_cons_zero, List.getElem_cons_succ] at hcg hcr0 hcr1 hcr2
            have D0 : Below w8.heap.size w8 w8.drew := (Below.refl _ _).drew
            have D1 : Below w8.heap.size w8 (w8.alloc (.cells #[.string s, .int .i64 (z + 1), .slice A3 l.length c3] 65)) := lit_below w8 _
            have t0 := hcg _ D0
            have b0 := hcr0 _ D0
            have b1 := hcr1 _ D0
            have b2 := hcr2 _ D0
            have l0 := hcg _ D1
            have H8 := Lib.hid hH8
            clear hcg hcr0 hcr1 hcr2 hH8 hR8 hO8 hB8 hc2
            have hone1 : ∀ u ∈ batsC [((Value.slice A3 l.length c3), (s, z + 1, l))], u.oneCell' = true := by
              intro u hu
              simp only [batsC, List.flatMap_cons, List.flatMap_nil, List.append_nil, batL, List.mem_cons, List.not_mem_nil, or_false] at hu
              rcases hu with rfl | rfl | rfl <;> rfl
            have hfine : fineB (s, z + 1, l) := ⟨⟨hs, by simp only []; omega, Hl.out.2⟩, HC2.out⟩
            have HONE := Lib.hid hone1
            have HFINE := Lib.hid hfine
            clear hone1 hfine
            rcases H.out.2.2.1 with hwn | hwn
            · have HW := Lib.hid (own_next hwn HB8.out)
              have HROW : Hid (RowOf w base (.slice Av L.length cv) L (Value.slice Av L.length cv).ownBlock) := Lib.hid (.inr ⟨rfl, hwn⟩)
              clear hwn
              go_wp2_with fail
              go_region_law (refine step_append_at rfl _ _ 54 rfl base 65 j0 _ 3 48 Try.underlying54 hj0 hy0 hy1 hy2 rfl (by decide) (.slice Av L.length cv) L.length (batsC L) rfl (own_next HW.out (by first | exact D1.drew | exact D1 | exact D0.alloc D0.size _)) _ 1 (batsC [((Value.slice A3 l.length c3), (s, z + 1, l))]) rfl (by first | exact bat_lit w8 ((Value.slice A3 l.length c3), (s, z + 1, l)) | exact Reads.drewM (bat_lit w8 ((Value.slice A3 l.length c3), (s, z + 1, l)))) HONE.out (by unfold maxLen; omega) (by omega) (Nat.le_trans (by omega : base ≤ w8.heap.size) (Below.size (B := w8.heap.size) (w := w8) (by first | exact D1.drew | exact D1 | exact D0.alloc D0.size _))) ?_; intro v2 w2 hown2 hg2 hat2; obtain ⟨A2, cap2, rfl, -, -, -, -⟩ := Reads.of_own hown2; have hBx := below_more HB8.out (by first | exact D1.drew | exact D1 | exact D0.alloc D0.size _) (Nat.le_refl _); have hR2 := (HR8.out.next (by first | exact D1.drew | exact D1 | exact D0.alloc D0.size _)).grown hg2 (RowOf.lt HROW.out hRw); have hg2r := (H8.out.1.next (by first | exact D1.drew | exact D1 | exact D0.alloc D0.size _)).grown hg2 (RowOf.ne (RowOf.next HROW.out hBx) (H8.out.1.next (by first | exact D1.drew | exact D1 | exact D0.alloc D0.size _)) types_neM.1); have c2' := hg2r.cell 1 (by simp); have f2' := hg2r.frozen 1 (by simp); have r2' := (hR2.far (p := ⟨g, 1, none⟩) hRg (.slice A2 (L.length + 1) cap2)).cell 1 (by simp); have hyes := Lib.hid (app_yes hBx H.out hbase HROW.out hg2 hown2 (own_next HO8.out (by first | exact D1.drew | exact D1 | exact D0.alloc D0.size _)) HFINE.out (hat2.elim (fun h9 => .inl h9) (fun h9 => .inr (fun k hk => by rw [h9] at hk; cases hk; exact hBx.size)))))
              all_goals
                simp only [List.getElem_cons_zero, List.getElem_cons_succ, List.set_cons_succ, List.set_cons_zero] at c2' r2'
                clear hg2 hown2 hR2 hg2r hBx
                go_wp2
                go_ret2
                rw [HAP.out, ← HZ.out]
                exact ⟨fun h => absurd HC2.out h, fun _ => hyes.out⟩
            · have hFR := hwn.reads
              obtain ⟨bF, hbF, -⟩ := id hwn
              obtain ⟨rfl, -, rfl⟩ := Value.slice.inj hbF
              have HFR := Lib.hid (hFR.next HB8.out)
              have HOC := Lib.hid (batC_one (fun p hp => (H.out.r.2.2 p hp).1))
              have HROW : Hid (RowOf w base (.slice (some ⟨bF, 0, none⟩) L.length L.length) L none) := Lib.hid (.inl rfl)
              clear hwn hFR hbF
              go_wp2_with fail
              go_region_law (refine step_append_full rfl _ _ 54 rfl 65 j0 _ 3 48 Try.underlying54 hj0 hy0 hy1 hy2 rfl _ L.length (batsC L) rfl (HFR.out.next (by first | exact D1.drew | exact D1 | exact D0.alloc D0.size _)) HOC.out _ 1 (batsC [((Value.slice A3 l.length c3), (s, z + 1, l))]) rfl (by first | exact bat_lit w8 ((Value.slice A3 l.length c3), (s, z + 1, l)) | exact Reads.drewM (bat_lit w8 ((Value.slice A3 l.length c3), (s, z + 1, l)))) HONE.out (by unfold maxLen; omega) (by omega) ?_; intro v2 w2 hrd2 hoo hg2; have hown2 := own_baseM (hoo (by omega)) (Nat.le_trans (by omega : base ≤ w8.heap.size) (Below.size (B := w8.heap.size) (w := w8) (by first | exact D1.drew | exact D1 | exact D0.alloc D0.size _))); obtain ⟨A2, cap2, rfl, -, -, -, -⟩ := Reads.of_own hown2; have hBx := below_more HB8.out (by first | exact D1.drew | exact D1 | exact D0.alloc D0.size _) (Nat.le_refl _); have hR2 := (HR8.out.next (by first | exact D1.drew | exact D1 | exact D0.alloc D0.size _)).grown hg2 (RowOf.lt HROW.out hRw); have hg2r := (H8.out.1.next (by first | exact D1.drew | exact D1 | exact D0.alloc D0.size _)).grown hg2 (RowOf.ne (RowOf.next HROW.out hBx) (H8.out.1.next (by first | exact D1.drew | exact D1 | exact D0.alloc D0.size _)) types_neM.1); have c2' := hg2r.cell 1 (by simp); have f2' := hg2r.frozen 1 (by simp); have r2' := (hR2.far (p := ⟨g, 1, none⟩) hRg (.slice A2 (L.length + 1) cap2)).cell 1 (by simp); have hyes := Lib.hid (app_yes hBx H.out hbase HROW.out hg2 hown2 (own_next HO8.out (by first | exact D1.drew | exact D1 | exact D0.alloc D0.size _)) HFINE.out (.inr (fun k hk => Nat.le_trans hBx.size (own_block_ge (hoo (by omega)) k hk)))))
              all_goals
                simp only [List.getElem_cons_zero, List.getElem_cons_succ, List.set_cons_succ, List.set_cons_zero] at c2' r2'
                clear hg2 hown2 hR2 hg2r hBx
                go_wp2
                go_ret2
                rw [HAP.out, ← HZ.out]
                exact ⟨fun h => absurd HC2.out h, fun _ => hyes.out⟩
          · have HC2 := Lib.hid hc2
            have hcc2 : (checkB (s, z + 1, l) == 0) = false := by rw [beq_eq_false_iff_ne]; exact hc2
            have hcc3 : (checkB (s, z + 1, l) != 0) = true := by rw [bne_iff_ne]; exact hc2
            clear hc2 hH8 hR8 hO8
            go_wp2
            go_ret2
            rw [HAP.out]
            exact ⟨fun _ => ⟨rfl, hB8⟩, fun h => absurd h HC2.out⟩
      · have hap : appE L s x l = 80 := by unfold appE; rw [if_neg (by rw [HC.out]; decide), if_neg (by have := HX2.out; omega), if_pos (by rw [← HZ.out]; omega)]
        have hx6 : (x != -2) = true := by rw [bne_iff_ne]; omega
        have hx7 : (x != z) = true := by rw [bne_iff_ne]; omega
        have Hap := Lib.hid hap
        clear hap
        go_wp2
        go_ret2
        rw [Hap.out]
        exact ⟨fun _ => ⟨rfl, hbw6⟩, fun h => absurd h (by decide)⟩
  · have hap : appE L s x l = checkB (s, 0, l) := by unfold appE; rw [if_pos hc]
    have hcc : (checkB (s, 0, l) == 0) = false := by rw [beq_eq_false_iff_ne]; exact hc
    have Hap := Lib.hid hap
    clear hap
    go_wp2_with fail
    refine HN.mono ?_
    rintro e w' ⟨rfl, rfl⟩
    go_wp2
    go_ret2
    rw [Hap.out]
    exact ⟨fun _ => ⟨rfl, hbw5⟩, fun h => absurd h hc⟩
end Go.Proofs.Ytmplabhofhllmaa
