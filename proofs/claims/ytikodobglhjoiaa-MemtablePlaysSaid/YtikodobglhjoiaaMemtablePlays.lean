/-
  Rows.MemtablePlaysSaid: whatever is done with a table, each answer, and all entries, in order, are the document's; what is told is new memory.
-/
import Derived.Test.YtikodobglhjoiaaPlayS
import Derived.Test.YtikodobglhjoiaaOpenAct
import Derived.Test.YtikodobglhjoiaaEntLast
import Derived.Test.YtikodobglhjoiaaEntRefR
import Derived.Deep.RegionHeld3
namespace Go.Proofs.Ytikodobglhjoiaa
open Go.RowKit
set_option linter.unusedVariables false

def Acts (w : World) (v : Value) (l : List Act3) : Prop := Reads w v 5 l.length (l.flatMap actL) ∧ ∀ a ∈ l, okA a
theorem acts_at {w : World} {A : Option Addr} {n c : Nat} {l : List Act3} (h : Acts w (.slice A n c) l) {k : Nat} {a : Act3} (ha : l[k]? = some a) :
    okA a ∧ ∃ b off, A = some ⟨b, off, none⟩ ∧ ∀ w', Below w.heap.size w w' → w'.cell? ⟨b, off + k * 5, none⟩ = some (.int .u8 (a.1 : Nat)) ∧ w'.cell? ⟨b, off + k * 5 + 1, none⟩ = some (.int .u64 (a.2.1.1 : Nat)) ∧ w'.cell? ⟨b, off + k * 5 + 2, none⟩ = some (.int .i64 a.2.1.2.1) ∧ w'.cell? ⟨b, off + k * 5 + 3, none⟩ = some (.int .i64 a.2.1.2.2) ∧ w'.cell? ⟨b, off + k * 5 + 4, none⟩ = some (.int .i64 a.2.2) := by
  refine ⟨h.2 a (List.mem_of_getElem? ha), ?_⟩
  obtain ⟨⟨A0, c0, hv, -, -, -, hcell⟩, -⟩ := h
  simp only [Value.slice.injEq] at hv
  obtain ⟨rfl, rfl, rfl⟩ := hv
  have hk := (List.getElem?_eq_some_iff.1 ha).1
  obtain ⟨b, off, rfl, hlt, hc⟩ := hcell (by omega)
  refine ⟨b, off, rfl, fun w' hb => ?_⟩
  have key : ∀ j v, (actL a)[j]? = some v → j < 5 → w'.cell? ⟨b, off + (k * 5 + j), none⟩ = some v := by
    intro j v hv hj
    have hg := flatMap_get actL 5 length_actL l k j hk hj
    have he : l[k] = a := (List.getElem?_eq_some_iff.1 ha).2
    rw [he, hv] at hg
    obtain ⟨hlt2, hval⟩ := List.getElem?_eq_some_iff.1 hg
    rw [hb.cell (p := ⟨b, off + (k * 5 + j), none⟩) hlt, hc _ hlt2, hval]
  exact ⟨by have := key 0 _ rfl (by omega); exact this, by have := key 1 _ rfl (by omega); exact this, by have := key 2 _ rfl (by omega); exact this, by have := key 3 _ rfl (by omega); exact this, by have := key 4 _ rfl (by omega); exact this⟩
/-- The act's own copy: five cells. -/
theorem box5 {W w' : World} {X : Nat} {a b c d e : Value} {t : TypeId} {fr : Nat × Nat} (h : W.heap[X]? = some (.cells #[a, b, c, d, e] t fr)) (hb : w'.heap[X]? = W.heap[X]?) :
    w'.cell? ⟨X, 0, none⟩ = some a ∧ w'.cell? ⟨X, 1, none⟩ = some b ∧ w'.cell? ⟨X, 2, none⟩ = some c ∧ w'.cell? ⟨X, 3, none⟩ = some d ∧ w'.cell? ⟨X, 4, none⟩ = some e := by
  have h2 := hb.trans h
  unfold World.cell?
  simp [h2]
theorem wp_meetE9 {P : Program} {c : Code} {Q : Exit → Act → World → Prop} {a : Act} {w : World} (R : Nat → Value → World → Prop) (A : Nat → Value → Act) (h1 : c.wp P (fun e a' w' => e = .normal ∧ ∃ x y, a' = A x y ∧ R x y w') a w) (h2 : ∀ x y w', R x y w' → Q .normal (A x y) w') : c.wp P Q a w :=
  Code.wp_mono (fun e a' w' h => by obtain ⟨rfl, x, y, rfl, h⟩ := h; exact h2 x y w' h) h1
def Rows3P (w : World) (base : Nat) (A : Option Addr) (n : Nat) : Prop := 0 < n → ∃ g xs, A = some ⟨g, 0, none⟩ ∧ base ≤ g ∧ xs.length = n * 3 ∧ Row w g 25 xs
theorem Rows3P.of_own {w : World} {base n c : Nat} {A : Option Addr} {xs : List Value} (h : w.ownsRow base 25 3 (.slice A n c) n xs) : Rows3P w base A n := by
  intro h0
  rcases h.2 with ⟨hn, hx⟩ | ⟨g, cap, cur, hv, hbs, hgg, _⟩
  · simp at hn; omega
  · cases hv
    exact ⟨g, xs, rfl, hbs, h.1, Row.of_own h⟩
theorem Both.start {w0 w1 : World} (h : TabV w1 w0.heap.size w0.heap.size (.slice none 0 0) []) (hb : Below w0.heap.size w0 w1) : Both w0 (w1.alloc (.cells #[.slice none 0 0] 51)) w0.heap.size w1.heap.size (.slice none 0 0) (.slice none 0 0) [] [] :=
  have hl := below_lit w1 (.cells #[.slice none 0 0] 51)
  ⟨h.next hl, ⟨Row.new w1 #[.slice none 0 0] _, World.ownsRow_nil _ _ _ _, by simp⟩, Nat.ne_of_lt h.1.lt, Nat.le_refl _, hb.size, fun k hk => by simp [Value.ownBlock] at hk, by simp, rfl, below_chain hb hl⟩
set_option maxRecDepth 100000 in
set_option maxHeartbeats 16000000 in
theorem MemtablePlays_walk (v : Value) (l : List Act3) (w : World) (h : Acts w v l) :
    Calls Try.prog 8 #[v] w fun e w' => e = .returned (.bool true) ∧ Below w.heap.size w w' := by
  obtain ⟨⟨A, c, rfl, hc1, hc2, -, -⟩, -⟩ := id h
  unfold maxLen at hc2
  obtain ⟨n, hn⟩ : ∃ n, n = l.length := ⟨_, rfl⟩
  have H := Lib.hid h
  have Hn := Lib.hid hn
  rw [← hn] at hc1 ⊢
  clear h hn
  by_cases hn150 : n ≤ 150
  · have i0 : ¬ (150 : Int) < n := by omega
    go_enter Try.func8, Try.ntmps8
    go_wp2_with fail
    refine (tab_New w).mono ?_
    rintro e w1 ⟨rfl, hT1, hb1⟩
    have hst := Both.start hT1 hb1
    have Hst := Lib.hid hst
    have hgl : w.heap.size < w1.heap.size := hT1.1.lt
    clear hst hT1
    go_wp2_with fail
    generalize w1.alloc (.cells #[.slice none 0 0] 51) = w2 at Hst ⊢
    obtain ⟨g, hg⟩ : ∃ g, g = w.heap.size := ⟨_, rfl⟩
    obtain ⟨gr, hgr⟩ : ∃ g, g = w1.heap.size := ⟨_, rfl⟩
    have hst2 : Both w w2 g gr (.slice none 0 0) (.slice none 0 0) [] [] := by rw [hg, hgr]; exact Hst.out
    have Hst2 := Lib.hid hst2
    rw [← hg, ← hgr]
    clear hg hgr Hst hgl hb1 hst2
    go_loopw [5] (fun i wr => ∃ (k : Nat) (O L : List Ent) (vt vr : Value), k ≤ n ∧ i = .int .i64 (k : Int) ∧ Both w wr g gr vt vr O L ∧ L.length ≤ k) (fun i _ => n - (intOf i).toNat)
    case atStart => exact ⟨0, [], [], _, _, Nat.zero_le _, rfl, Hst2.out, Nat.le_refl _⟩
    case round =>
      obtain ⟨k, O, L, vt, vr, hk, rfl, hB, hLk⟩ := hrel
      by_cases hlt : k < n
      · have i1 : (k : Int) < n := by omega
        obtain ⟨a, ha⟩ : ∃ a, l[k]? = some a := ⟨_, List.getElem?_eq_getElem (by have := Hn.out; omega)⟩
        have hA : Acts w (.slice A n c) l := by have := H.out; rw [← Hn.out] at this; exact this
        obtain ⟨⟨ok1, oe, ok2⟩, b, off, rfl, hcell⟩ := acts_at hA ha
        obtain ⟨kd, ⟨x1, x2, x3⟩, to⟩ := a
        simp only [] at ok1 ok2 hcell
        obtain ⟨f0, f1, f2, f3, f4⟩ := hcell wr hB.below
        obtain ⟨m0, m1, m2, m3, m4⟩ := hcell (wr.alloc (.cells #[.int .u8 0, .int .u64 0, .int .i64 0, .int .i64 0, .int .i64 0] 53)) (below_chain hB.below (below_lit _ _))
        have hblt : b < wr.heap.size := by
          rcases Nat.lt_or_ge b wr.heap.size with h | h
          · exact h
          · unfold World.cell? at f0; rw [Array.getElem?_eq_none h] at f0; cases f0
        have hne9 : b ≠ wr.heap.size := Nat.ne_of_lt hblt
        have HB := Lib.hid hB
        obtain ⟨q, hq⟩ : ∃ q, q = kd % 8 := ⟨_, rfl⟩
        have hq8 : q < 8 := by omega
        have wk1 : ((kd : Int) % 8) = (q : Int) := by rw [hq]; simp
        have wk2 : Int.tmod (kd : Int) 8 = (q : Int) := by rw [Int.tmod_eq_emod_of_nonneg (by omega)]; exact wk1
        have kd0 : (0 : Int) ≤ (kd : Int) := by omega
        have kd1 : (kd : Int) < 256 := by omega
        have q0 : (0 : Int) ≤ (q : Int) := by omega
        have q1 : (q : Int) < 256 := by omega
        clear hB hcell hA ha hq
        have hxb := heap_alloc_new wr (.cells #[.int .u8 (kd : Nat), .int .u64 (x1 : Nat), .int .i64 x2, .int .i64 x3, .int .i64 to] 53)
        have HX := Lib.hid hxb
        clear hxb
        by_cases hq4 : q = 4
        · subst hq4
          go_wp2_with fail
          have hx := HX.out
          have hBw := HB.out.next (below_lit wr (.cells #[.int .u8 (kd : Nat), .int .u64 (x1 : Nat), .int .i64 x2, .int .i64 x3, .int .i64 to] 53))
          obtain ⟨X, hX⟩ : ∃ X, X = wr.heap.size := ⟨_, rfl⟩
          have hgX : g < X := by rw [hX]; exact HB.out.t.1.lt
          have hrX : gr < X := by rw [hX]; exact HB.out.r.1.lt
          have hvX : ∀ j, vr.ownBlock = some j → j < X := by rw [hX]; exact own_ltP HB.out.r.2.1
          rw [← hX] at hx ⊢
          generalize wr.alloc (.cells #[.int .u8 (kd : Nat), .int .u64 (x1 : Nat), .int .i64 x2, .int .i64 x3, .int .i64 to] 53) = W at hx hBw ⊢
          have hXW : X < W.heap.size := (Array.getElem?_eq_some_iff.1 hx).1
          have HX2 := Lib.hid hx
          have HBW := Lib.hid hBw
          have hOl : O.length ≤ 150 := by rw [hBw.len]; omega
          have hso := hBw.t.2.2.2
          clear f0 f1 f2 f3 f4 m0 m1 m2 m3 m4 hne9 hblt hX hx hBw HX HB

          refine (tab_Range HBW.out.t (by omega) x1 x2 to oe.1 oe.2.1 ok2).mono ?_
          rintro e w4 ⟨v4, rfl, hown4, hb4⟩
          obtain ⟨A4, c4, rfl, -, -, -, -⟩ := Reads.of_own hown4
          have hRok : ∀ e ∈ rangeE O x1 x2 to, okE e := fun e he => HBW.out.t.2.2.1 e ((List.mem_filter.1 (show e ∈ List.filter _ _ from he)).1)
          have hRl := rangeE_length O x1 x2 to
          have hE4 : Ents w4 (.slice A4 (rangeE O x1 x2 to).length c4) (rangeE O x1 x2 to) := ⟨Reads.of_own hown4, hRok⟩
          have D4 : Below W.heap.size W w4.drew := hb4.drew
          have F4 : Below w4.heap.size w4 w4.drew := (Below.refl _ _).drew
          have hB1 := HBW.out.next D4
          have cD := r_Dump hB1.r (by rw [← HBW.out.len]; omega)
          rw [hB1.sort] at cD
          have cRR := fun v w' (hE : Ents w' v O) => ref_Range v O x1 x2 to w' hE (by omega) oe.1 oe.2.1 ok2
          have hOok := HBW.out.t.2.2.1
          generalize rangeE O x1 x2 to = R at hown4 hRok hRl hE4 cRR ⊢
          obtain ⟨m, hm⟩ : ∃ m, m = R.length := ⟨_, rfl⟩
          have cSS := fun v v' w' (h1 : Ents w' v R) (h2 : Ents w' v' R) => ex_Same w' v v' R R true h1 h2 (by simp)
          rw [← hm] at hown4 hRl hE4 ⊢
          have HRok := Lib.hid hRok
          have HE4 := Lib.hid hE4
          have Hown4 := Lib.hid hown4
          have HCD := Lib.hid cD
          have HCR := Lib.hid cRR
          have HCS := Lib.hid cSS
          have HOok := Lib.hid hOok
          have hmm : m ≤ 150 := by omega
          have hS := fun (w' : World) (hb : Below W.heap.size W w') => (show w'.cell? ⟨X, 1, none⟩ = some (.int .u64 (x1 : Nat)) ∧ w'.cell? ⟨X, 2, none⟩ = some (.int .i64 x2) ∧ w'.cell? ⟨X, 4, none⟩ = some (.int .i64 to) from ⟨(box5 HX2.out (hb.block X hXW)).2.1, (box5 HX2.out (hb.block X hXW)).2.2.1, (box5 HX2.out (hb.block X hXW)).2.2.2.2⟩)
          have HS := Lib.hid hS
          clear hm hRok hE4 hown4 cD cRR cSS hOok hS hB1
          go_wp2_with fail
          go_region_held3 (fun w' => w'.cell? ⟨X, 1, none⟩ = some (.int .u64 (x1 : Nat)) ∧ w'.cell? ⟨X, 2, none⟩ = some (.int .i64 x2) ∧ w'.cell? ⟨X, 4, none⟩ = some (.int .i64 to)) (first | exact HS.out _ q7 | exact HS.out _ q6 | exact HS.out _ q5 | exact HS.out _ D4 | fail)
            (first
              | (go_at_call 21; refine (HCS.out _ _ _ (HE4.out.next p6) ⟨Reads.of_own hown6, HRok.out⟩).mono ?_; rintro e w7 ⟨rfl, hb7⟩; have q7 := below_chain q6 hb7; have p7 := below_chain p6 hb7)
              | (go_at_call 22; refine (HCR.out _ _ (show Ents w5 v5 O from ⟨Reads.of_own hown5, HOok.out⟩)).mono ?_; rintro e w6 ⟨v6, rfl, hown6, hb6⟩; have q6 := below_chain q5 hb6; have p6 := below_chain p5 hb6)
              | (go_at_call 36; refine HCD.out.mono ?_; rintro e w5 ⟨v5, rfl, hown5, hb5⟩; have q5 := below_chain D4 hb5; have p5 := below_chain F4 hb5)
              | fail)
          have hrw4 : Rows3P w7 W.heap.size A4 m := Rows3P.of_own (own_next Hown4.out p7)
          clear q5 q6 p5 p6 hown5 hown6 hb5 hb6 hb7 HS HCS HCR HCD HE4 Hown4 HOok HRok D4 F4 hb4 p7
          have hb4 := q7
          clear q7
          go_wp2_with fail

          go_loopw [8] (fun i wi => ∃ j : Nat, j ≤ m ∧ i = .int .i64 (j : Int) ∧ Rows3P wi W.heap.size A4 m ∧ Below W.heap.size W wi) (fun i _ => m - (intOf i).toNat)
          case atStart => exact ⟨0, Nat.zero_le _, rfl, hrw4, hb4⟩
          case round =>
            obtain ⟨j, hj, rfl, hrw, hbi⟩ := hrel
            by_cases hjm : j < m
            · have iq : (j : Int) < m := by omega
              obtain ⟨g9, xs, rfl, hge, hxl, hrow⟩ := hrw (by omega)
              have r0 := hrow.cell (j * 3) (by omega)
              have r1 := hrow.cell (j * 3 + 1) (by omega)
              have r2 := hrow.cell (j * 3 + 2) (by omega)
              have f0 := hrow.frozen (j * 3) (by omega)
              have f1 := hrow.frozen (j * 3 + 1) (by omega)
              have f2 := hrow.frozen (j * 3 + 2) (by omega)
              generalize xs[j * 3]'(by omega) = d0 at r0
              generalize xs[j * 3 + 1]'(by omega) = d1 at r1
              generalize xs[j * 3 + 2]'(by omega) = d2 at r2
              have Hrow := Lib.hid hrow
              clear hrow hrw hrw4
              go_wp2
              go_roundw
              case rel => exact ⟨j + 1, by omega, by go_num, fun _ => ⟨g9, _, rfl, hge, by simp [hxl], ((Hrow.out.set (j * 3) _).set (j * 3 + 1) _).set (j * 3 + 2) _⟩, ((hbi.setCell (p := ⟨g9, j * 3, none⟩) hge _).setCell (p := ⟨g9, j * 3 + 1, none⟩) hge _).setCell (p := ⟨g9, j * 3 + 2, none⟩) hge _⟩
              case measure => simp [intOf]; omega
            · have iq : ¬ (j : Int) < m := by omega
              clear hrw hrw4
              have hB5 := HBW.out.next hbi

              obtain ⟨O9, L9, vt9, vr9, hB9, hL9⟩ : ∃ O9 L9 vt9 vr9, Both w wr g gr vt9 vr9 O9 L9 ∧ L9.length ≤ k + 1 := ⟨_, _, _, _, hB5, by omega⟩

              have hLn : O9.length = L9.length := hB9.len
              obtain ⟨N9, hN9⟩ : ∃ N, N = L9.length := ⟨_, rfl⟩
              have hT9 := hB9.t
              have hR9 := hB9.r
              obtain ⟨⟨AR, cR, rfl, -, cRm, -, -⟩, -⟩ := id hR9.ents
              have cLen := fun x : Later wr => (tab_Len (hT9.next x.ok))
              simp only [hLn, ← hN9] at cLen
              have frL := fun x : Later wr => (hR9.1.next x.ok).cell 0 (by simp)
              simp only [List.getElem_cons_zero, ← hN9] at frL
              have HB9 := Lib.hid hB9
              have HN9 := Lib.hid hN9
              have hN9' : N9 ≤ k + 1 := by omega
              clear hT9 hR9 hLn hB9 hN9 hL9
              rw [← HN9.out] at HB9
              go_wp2_with fail
              refine wp_region_below (by kernel_rfl) (by kernel_rfl) ?_
              repeat (first | go_big_quiet_skip | (go_big_quiet_want; go_big_quiet_op; go_big_quiet_on) | (go_big_quiet_want; go_big_quiet_op; apply Exists.intro; refine ⟨fun x => ?_, ?_⟩; (first | (go_at_call 41; exact calls_same x (cLen x))); go_big_quiet_on))
              refine wpQuiet_nil ?_
              intro _ hx
              obtain ⟨⟨w99, hb99⟩, rfl⟩ := hx
              rename_i w99
              have HF := Lib.hid (HB9.out.next hb99)
              clear frL cLen
              go_wp2
              go_roundw
              case rel => exact ⟨k + 1, O9, L9, vt9, _, by omega, by go_num, HF.out, by rw [← HN9.out]; exact hN9'⟩
              case measure => simp [intOf]; omega
        · by_cases hq5 : q = 5
          · subst hq5
            have n4 : ((5 : Int) == 4) = false := by decide
            go_wp2_with fail
            have hx := HX.out
            have hBw := HB.out.next (below_lit wr (.cells #[.int .u8 (kd : Nat), .int .u64 (x1 : Nat), .int .i64 x2, .int .i64 x3, .int .i64 to] 53))
            obtain ⟨X, hX⟩ : ∃ X, X = wr.heap.size := ⟨_, rfl⟩
            have hgX : g < X := by rw [hX]; exact HB.out.t.1.lt
            have hrX : gr < X := by rw [hX]; exact HB.out.r.1.lt
            have hvX : ∀ j, vr.ownBlock = some j → j < X := by rw [hX]; exact own_ltP HB.out.r.2.1
            rw [← hX] at hx ⊢
            generalize wr.alloc (.cells #[.int .u8 (kd : Nat), .int .u64 (x1 : Nat), .int .i64 x2, .int .i64 x3, .int .i64 to] 53) = W at hx hBw ⊢
            have hXW : X < W.heap.size := (Array.getElem?_eq_some_iff.1 hx).1
            have HX2 := Lib.hid hx
            have HBW := Lib.hid hBw
            have hOl : O.length ≤ 150 := by rw [hBw.len]; omega
            have hso := hBw.t.2.2.2
            clear f0 f1 f2 f3 f4 m0 m1 m2 m3 m4 hne9 hblt hX hx hBw HX HB

            have cl := tab_Last HBW.out.t x1 x2 oe.1 oe.2.1
            have cLL := fun v w' (hE : Ents w' v O) => ref_Last v O x1 x2 w' hE oe.1 oe.2.1
            have hOok := HBW.out.t.2.2.1
            generalize entO (lastE O x1 x2) = z at cl cLL
            generalize (lastE O x1 x2).isSome = zb at cl cLL
            obtain ⟨z1, z2, z3⟩ := z
            unfold entC at cl cLL
            refine cl.mono ?_
            rintro e w4 ⟨rfl, hb4⟩
            have hl5 := below_lit w4 (.cells #[.int .u64 (z1 : Nat), .int .i64 z2, .int .i64 z3] 25)
            have hrowA : Row (w4.alloc (.cells #[.int .u64 (z1 : Nat), .int .i64 z2, .int .i64 z3] 25)) w4.heap.size 25 [.int .u64 (z1 : Nat), .int .i64 z2, .int .i64 z3] := Row.new w4 #[.int .u64 (z1 : Nat), .int .i64 z2, .int .i64 z3] 25
            have hbW5 := below_chain hb4 hl5
            have HOok := Lib.hid hOok
            have HLL := Lib.hid cLL
            clear hOok cLL cl hl5 hb4
            go_wp2_with fail
            obtain ⟨P9, hP9⟩ : ∃ P, P = w4.heap.size := ⟨_, rfl⟩
            rw [← hP9] at hrowA ⊢
            generalize w4.alloc (.cells #[.int .u64 (z1 : Nat), .int .i64 z2, .int .i64 z3] 25) = W5 at hrowA hbW5 ⊢
            clear hP9
            have HA := Lib.hid hrowA
            have hB1 := HBW.out.next hbW5
            have cD := fun (w' : World) (hb : Below W5.heap.size W5 w') => r_Dump (hB1.r.next hb) (by rw [← HBW.out.len]; omega)
            rw [hB1.sort] at cD
            have HCD := Lib.hid cD
            have hS := fun (w' : World) (hb : Below W5.heap.size W5 w') => (show w'.cell? ⟨X, 1, none⟩ = some (.int .u64 (x1 : Nat)) ∧ w'.cell? ⟨X, 2, none⟩ = some (.int .i64 x2) from ⟨(box5 HX2.out ((below_chain hbW5 hb).block X hXW)).2.1, (box5 HX2.out ((below_chain hbW5 hb).block X hXW)).2.2.1⟩)
            have HS := Lib.hid hS
            have D1 : Below W5.heap.size W5 W5.drew := (Below.refl _ _).drew
            have D1b : Below W5.heap.size W5 (W5.alloc (.cells #[.int .u64 0, .int .i64 0, .int .i64 0] 25)).drew := (below_lit W5 (.cells #[.int .u64 0, .int .i64 0, .int .i64 0] 25)).drew
            have Hrow0 := Lib.hid (show Row (W5.alloc (.cells #[.int .u64 0, .int .i64 0, .int .i64 0] 25)).drew W5.heap.size 25 [.int .u64 0, .int .i64 0, .int .i64 0] from Row.new W5 #[.int .u64 0, .int .i64 0, .int .i64 0] 25)
            clear hrowA cD hS hB1
            apply wp_meetE9 (fun g9 _ w' => Below W5.heap.size W5 w' ∧ Row w' g9 25 [.int .u64 (z1 : Nat), .int .i64 z2, .int .i64 z3])
            · go_region_held3 (fun w' => w'.cell? ⟨X, 1, none⟩ = some (.int .u64 (x1 : Nat)) ∧ w'.cell? ⟨X, 2, none⟩ = some (.int .i64 x2)) (first | (exact HS.out _ (below_chain q7 (below_lit _ _))) | (exact HS.out _ (((q7.setCell (p := ⟨W5.heap.size, 0, none⟩) (Nat.le_refl _) _).setCell (p := ⟨W5.heap.size, 1, none⟩) (Nat.le_refl _) _).setCell (p := ⟨W5.heap.size, 2, none⟩) (Nat.le_refl _) _)) | (exact HS.out _ (((q7.setCell (p := ⟨w6.heap.size, 0, none⟩) q6.size _).setCell (p := ⟨w6.heap.size, 1, none⟩) q6.size _).setCell (p := ⟨w6.heap.size, 2, none⟩) q6.size _)) | (exact HS.out _ q7) | (exact HS.out _ q6) | (exact HS.out _ (below_chain q6 (below_lit _ _))) | (exact HS.out _ D1) | (exact HS.out _ D1b) | fail)
                (first
                  | (go_at_call 18; refine (HLL.out v6 _ (E6.next (by first | exact Below.refl _ _ | exact below_lit _ _))).mono ?_; rintro e w7 ⟨rfl, hb7⟩; first | (have hrow7 := hrow6.next hb7; have q7 := below_chain q6 hb7; clear r0 r1 r2 f0 f1 f2; have r0 := hrow7.cell 0 (by simp); have r1 := hrow7.cell 1 (by simp); have r2 := hrow7.cell 2 (by simp); have f0 := hrow7.frozen 0 (by simp); have f1 := hrow7.frozen 1 (by simp); have f2 := hrow7.frozen 2 (by simp); simp only [List.getElem_cons_zero, List.getElem_cons_succ] at r0 r1 r2) | (have q7 := below_chain (below_chain q6 (below_lit w6 (.cells #[.int .u64 0, .int .i64 0, .int .i64 0] 25))) hb7; have hrow7 : Row w7 w6.heap.size 25 [.int .u64 0, .int .i64 0, .int .i64 0] := (Row.new w6 #[.int .u64 0, .int .i64 0, .int .i64 0] 25).next hb7; have r0 := hrow7.cell 0 (by simp); have r1 := hrow7.cell 1 (by simp); have r2 := hrow7.cell 2 (by simp); have f0 := hrow7.frozen 0 (by simp); have f1 := hrow7.frozen 1 (by simp); have f2 := hrow7.frozen 2 (by simp); simp only [List.getElem_cons_zero, List.getElem_cons_succ] at r0 r1 r2) | (have q7 := below_chain q6 hb7))
                  | (go_at_call 36; refine (HCD.out _ (by first | exact D1 | exact D1b)).mono ?_; rintro e w6 ⟨v6, rfl, hown6, hb6⟩; have E6 : Ents w6 v6 O := ⟨Reads.of_own hown6, HOok.out⟩; first | (have q6 := below_chain D1 hb6) | (have q6 := below_chain D1b hb6; have hrow6 := Hrow0.out.next hb6; have r0 := hrow6.cell 0 (by simp); have r1 := hrow6.cell 1 (by simp); have r2 := hrow6.cell 2 (by simp); have f0 := hrow6.frozen 0 (by simp); have f1 := hrow6.frozen 1 (by simp); have f2 := hrow6.frozen 2 (by simp); simp only [List.getElem_cons_zero, List.getElem_cons_succ] at r0 r1 r2))
                  | fail)
              all_goals first
                | (have hR : Below W5.heap.size W5 (w7.alloc (.cells #[.int .u64 (z1 : Nat), .int .i64 z2, .int .i64 z3] 25)) ∧ Row (w7.alloc (.cells #[.int .u64 (z1 : Nat), .int .i64 z2, .int .i64 z3] 25)) w7.heap.size 25 [.int .u64 (z1 : Nat), .int .i64 z2, .int .i64 z3] := ⟨below_chain q7 (below_lit _ _), Row.new w7 #[.int .u64 (z1 : Nat), .int .i64 z2, .int .i64 z3] 25⟩
                   revert hR
                   generalize w7.heap.size = g9
                   intro hR
                   exact ⟨rfl, g9, v6, rfl, hR⟩)
                | (have hR : Below W5.heap.size W5 (((w7.setCell ⟨W5.heap.size, 0, none⟩ (.int .u64 (z1 : Nat))).setCell ⟨W5.heap.size, 1, none⟩ (.int .i64 z2)).setCell ⟨W5.heap.size, 2, none⟩ (.int .i64 z3)) ∧ Row (((w7.setCell ⟨W5.heap.size, 0, none⟩ (.int .u64 (z1 : Nat))).setCell ⟨W5.heap.size, 1, none⟩ (.int .i64 z2)).setCell ⟨W5.heap.size, 2, none⟩ (.int .i64 z3)) W5.heap.size 25 [.int .u64 (z1 : Nat), .int .i64 z2, .int .i64 z3] := ⟨((q7.setCell (p := ⟨W5.heap.size, 0, none⟩) (Nat.le_refl _) _).setCell (p := ⟨W5.heap.size, 1, none⟩) (Nat.le_refl _) _).setCell (p := ⟨W5.heap.size, 2, none⟩) (Nat.le_refl _) _, ((hrow7.set 0 _).set 1 _).set 2 _⟩
                   clear hrow7 r0 r1 r2 f0 f1 f2
                   revert hR
                   generalize W5.heap.size = g9
                   intro hR
                   exact ⟨rfl, g9, v6, rfl, hR⟩)
                | (have hR : Below W5.heap.size W5 (((w7.setCell ⟨w6.heap.size, 0, none⟩ (.int .u64 (z1 : Nat))).setCell ⟨w6.heap.size, 1, none⟩ (.int .i64 z2)).setCell ⟨w6.heap.size, 2, none⟩ (.int .i64 z3)) ∧ Row (((w7.setCell ⟨w6.heap.size, 0, none⟩ (.int .u64 (z1 : Nat))).setCell ⟨w6.heap.size, 1, none⟩ (.int .i64 z2)).setCell ⟨w6.heap.size, 2, none⟩ (.int .i64 z3)) w6.heap.size 25 [.int .u64 (z1 : Nat), .int .i64 z2, .int .i64 z3] := ⟨((q7.setCell (p := ⟨w6.heap.size, 0, none⟩) q6.size _).setCell (p := ⟨w6.heap.size, 1, none⟩) q6.size _).setCell (p := ⟨w6.heap.size, 2, none⟩) q6.size _, ((hrow7.set 0 _).set 1 _).set 2 _⟩
                   clear hrow7 r0 r1 r2 f0 f1 f2
                   revert hR
                   generalize w6.heap.size = g9
                   intro hR
                   exact ⟨rfl, g9, v6, rfl, hR⟩)
            intro g9 v9 w8 ⟨q8, row8⟩
            have rowA8 := HA.out.next q8
            have a0 := rowA8.cell 0 (by simp)
            have a1 := rowA8.cell 1 (by simp)
            have a2 := rowA8.cell 2 (by simp)
            have b0 := row8.cell 0 (by simp)
            have b1 := row8.cell 1 (by simp)
            have b2 := row8.cell 2 (by simp)
            simp only [List.getElem_cons_zero, List.getElem_cons_succ] at a0 a1 a2 b0 b1 b2
            have hB5 := HBW.out.next (below_chain hbW5 q8)
            clear rowA8 row8 HS HLL HCD D1 D1b Hrow0 HA HOok

            obtain ⟨O9, L9, vt9, vr9, hB9, hL9⟩ : ∃ O9 L9 vt9 vr9, Both w w8 g gr vt9 vr9 O9 L9 ∧ L9.length ≤ k + 1 := ⟨_, _, _, _, hB5, by omega⟩

            have hLn : O9.length = L9.length := hB9.len
            obtain ⟨N9, hN9⟩ : ∃ N, N = L9.length := ⟨_, rfl⟩
            have hT9 := hB9.t
            have hR9 := hB9.r
            obtain ⟨⟨AR, cR, rfl, -, cRm, -, -⟩, -⟩ := id hR9.ents
            have cLen := fun x : Later w8 => (tab_Len (hT9.next x.ok))
            simp only [hLn, ← hN9] at cLen
            have frL := fun x : Later w8 => (hR9.1.next x.ok).cell 0 (by simp)
            simp only [List.getElem_cons_zero, ← hN9] at frL
            have HB9 := Lib.hid hB9
            have HN9 := Lib.hid hN9
            have hN9' : N9 ≤ k + 1 := by omega
            clear hT9 hR9 hLn hB9 hN9 hL9
            go_wp2_with fail
            rw [← HN9.out] at HB9
            clear a0 a1 a2 b0 b1 b2
            refine wp_region_below (by kernel_rfl) (by kernel_rfl) ?_
            repeat (first | go_big_quiet_skip | (go_big_quiet_want; go_big_quiet_op; go_big_quiet_on) | (go_big_quiet_want; go_big_quiet_op; apply Exists.intro; refine ⟨fun x => ?_, ?_⟩; (first | (go_at_call 41; exact calls_same x (cLen x))); go_big_quiet_on))
            refine wpQuiet_nil ?_
            intro _ hx
            obtain ⟨⟨w99, hb99⟩, rfl⟩ := hx
            rename_i w99
            have HF := Lib.hid (HB9.out.next hb99)
            clear frL cLen
            go_wp2
            go_roundw
            case rel => exact ⟨k + 1, O9, L9, vt9, _, by omega, by go_num, HF.out, by rw [← HN9.out]; exact hN9'⟩
            case measure => simp [intOf]; omega
          · by_cases hq6 : q = 6
            · subst hq6
              go_wp2_with fail
              have hx := HX.out
              have hBw := HB.out.next (below_lit wr (.cells #[.int .u8 (kd : Nat), .int .u64 (x1 : Nat), .int .i64 x2, .int .i64 x3, .int .i64 to] 53))
              obtain ⟨X, hX⟩ : ∃ X, X = wr.heap.size := ⟨_, rfl⟩
              have hgX : g < X := by rw [hX]; exact HB.out.t.1.lt
              have hrX : gr < X := by rw [hX]; exact HB.out.r.1.lt
              have hvX : ∀ j, vr.ownBlock = some j → j < X := by rw [hX]; exact own_ltP HB.out.r.2.1
              rw [← hX] at hx ⊢
              generalize wr.alloc (.cells #[.int .u8 (kd : Nat), .int .u64 (x1 : Nat), .int .i64 x2, .int .i64 x3, .int .i64 to] 53) = W at hx hBw ⊢
              have hXW : X < W.heap.size := (Array.getElem?_eq_some_iff.1 hx).1
              have HX2 := Lib.hid hx
              have HBW := Lib.hid hBw
              have hOl : O.length ≤ 150 := by rw [hBw.len]; omega
              have hso := hBw.t.2.2.2
              clear f0 f1 f2 f3 f4 m0 m1 m2 m3 m4 hne9 hblt hX hx hBw HX HB

              refine (tab_Dump HBW.out.t (by omega)).mono ?_
              rintro e w4 ⟨v4, rfl, hown4, hb4⟩
              obtain ⟨A4, c4, rfl, -, -, -, -⟩ := Reads.of_own hown4
              have hrw4 : Rows3P w4 W.heap.size A4 O.length := Rows3P.of_own hown4
              clear hown4
              obtain ⟨m, hm⟩ : ∃ m, m = O.length := ⟨_, rfl⟩
              rw [← hm] at hrw4 ⊢
              have hmm : m ≤ 150 := by omega
              clear hm
              go_wp2_with fail

              go_loopw [14] (fun i wi => ∃ j : Nat, j ≤ m ∧ i = .int .i64 (j : Int) ∧ Rows3P wi W.heap.size A4 m ∧ Below W.heap.size W wi) (fun i _ => m - (intOf i).toNat)
              case atStart => exact ⟨0, Nat.zero_le _, rfl, hrw4, hb4⟩
              case round =>
                obtain ⟨j, hj, rfl, hrw, hbi⟩ := hrel
                by_cases hjm : j < m
                · have iq : (j : Int) < m := by omega
                  obtain ⟨g9, xs, rfl, hge, hxl, hrow⟩ := hrw (by omega)
                  have r0 := hrow.cell (j * 3) (by omega)
                  have r1 := hrow.cell (j * 3 + 1) (by omega)
                  have r2 := hrow.cell (j * 3 + 2) (by omega)
                  have f0 := hrow.frozen (j * 3) (by omega)
                  have f1 := hrow.frozen (j * 3 + 1) (by omega)
                  have f2 := hrow.frozen (j * 3 + 2) (by omega)
                  generalize xs[j * 3]'(by omega) = d0 at r0
                  generalize xs[j * 3 + 1]'(by omega) = d1 at r1
                  generalize xs[j * 3 + 2]'(by omega) = d2 at r2
                  have Hrow := Lib.hid hrow
                  clear hrow hrw hrw4
                  go_wp2
                  go_roundw
                  case rel => exact ⟨j + 1, by omega, by go_num, fun _ => ⟨g9, _, rfl, hge, by simp [hxl], ((Hrow.out.set (j * 3) _).set (j * 3 + 1) _).set (j * 3 + 2) _⟩, ((hbi.setCell (p := ⟨g9, j * 3, none⟩) hge _).setCell (p := ⟨g9, j * 3 + 1, none⟩) hge _).setCell (p := ⟨g9, j * 3 + 2, none⟩) hge _⟩
                  case measure => simp [intOf]; omega
                · have iq : ¬ (j : Int) < m := by omega
                  clear hrw hrw4
                  have hB5 := HBW.out.next hbi

                  obtain ⟨O9, L9, vt9, vr9, hB9, hL9⟩ : ∃ O9 L9 vt9 vr9, Both w wr g gr vt9 vr9 O9 L9 ∧ L9.length ≤ k + 1 := ⟨_, _, _, _, hB5, by omega⟩

                  have hLn : O9.length = L9.length := hB9.len
                  obtain ⟨N9, hN9⟩ : ∃ N, N = L9.length := ⟨_, rfl⟩
                  have hT9 := hB9.t
                  have hR9 := hB9.r
                  obtain ⟨⟨AR, cR, rfl, -, cRm, -, -⟩, -⟩ := id hR9.ents
                  have cLen := fun x : Later wr => (tab_Len (hT9.next x.ok))
                  simp only [hLn, ← hN9] at cLen
                  have frL := fun x : Later wr => (hR9.1.next x.ok).cell 0 (by simp)
                  simp only [List.getElem_cons_zero, ← hN9] at frL
                  have HB9 := Lib.hid hB9
                  have HN9 := Lib.hid hN9
                  have hN9' : N9 ≤ k + 1 := by omega
                  clear hT9 hR9 hLn hB9 hN9 hL9
                  rw [← HN9.out] at HB9
                  go_wp2_with fail
                  refine wp_region_below (by kernel_rfl) (by kernel_rfl) ?_
                  repeat (first | go_big_quiet_skip | (go_big_quiet_want; go_big_quiet_op; go_big_quiet_on) | (go_big_quiet_want; go_big_quiet_op; apply Exists.intro; refine ⟨fun x => ?_, ?_⟩; (first | (go_at_call 41; exact calls_same x (cLen x))); go_big_quiet_on))
                  refine wpQuiet_nil ?_
                  intro _ hx
                  obtain ⟨⟨w99, hb99⟩, rfl⟩ := hx
                  rename_i w99
                  have HF := Lib.hid (HB9.out.next hb99)
                  clear frL cLen
                  go_wp2
                  go_roundw
                  case rel => exact ⟨k + 1, O9, L9, vt9, _, by omega, by go_num, HF.out, by rw [← HN9.out]; exact hN9'⟩
                  case measure => simp [intOf]; omega
            · have n4 : ((q : Int) == 4) = false := by simp; omega
              have n5 : ((q : Int) == 5) = false := by simp; omega
              have n6 : ((q : Int) == 6) = false := by simp; omega
              by_cases hq7 : q = 7
              · subst hq7
                go_wp2_with fail
                have hx := HX.out
                have hBw := HB.out.next (below_lit wr (.cells #[.int .u8 (kd : Nat), .int .u64 (x1 : Nat), .int .i64 x2, .int .i64 x3, .int .i64 to] 53))
                obtain ⟨X, hX⟩ : ∃ X, X = wr.heap.size := ⟨_, rfl⟩
                have hgX : g < X := by rw [hX]; exact HB.out.t.1.lt
                have hrX : gr < X := by rw [hX]; exact HB.out.r.1.lt
                have hvX : ∀ j, vr.ownBlock = some j → j < X := by rw [hX]; exact own_ltP HB.out.r.2.1
                rw [← hX] at hx ⊢
                generalize wr.alloc (.cells #[.int .u8 (kd : Nat), .int .u64 (x1 : Nat), .int .i64 x2, .int .i64 x3, .int .i64 to] 53) = W at hx hBw ⊢
                have hXW : X < W.heap.size := (Array.getElem?_eq_some_iff.1 hx).1
                have HX2 := Lib.hid hx
                have HBW := Lib.hid hBw
                have hOl : O.length ≤ 150 := by rw [hBw.len]; omega
                have hso := hBw.t.2.2.2
                clear f0 f1 f2 f3 f4 m0 m1 m2 m3 m4 hne9 hblt hX hx hBw HX HB

                refine (tab_Clear HBW.out.t).mono ?_
                rintro e w4 ⟨rfl, ht4, hg4⟩
                obtain ⟨hrow4, hB5⟩ := HBW.out.clear ht4 hg4
                have z0 := hrow4.cell 0 (by simp)
                have z1 := hrow4.frozen 0 (by simp)
                simp only [List.getElem_cons_zero] at z0
                obtain ⟨⟨A0, c0, hv0, -, -, -, -⟩, -⟩ := id HBW.out.r.ents
                rw [hv0] at z0
                clear hrow4
                go_wp2_with fail
                generalize w4.setCell ⟨gr, 0, none⟩ (.slice none 0 0) = w5 at hB5 ⊢
                clear z0 z1 hv0

                obtain ⟨O9, L9, vt9, vr9, hB9, hL9⟩ : ∃ O9 L9 vt9 vr9, Both w w5 g gr vt9 vr9 O9 L9 ∧ L9.length ≤ k + 1 := ⟨_, _, _, _, hB5, Nat.zero_le _⟩

                have hLn : O9.length = L9.length := hB9.len
                obtain ⟨N9, hN9⟩ : ∃ N, N = L9.length := ⟨_, rfl⟩
                have hT9 := hB9.t
                have hR9 := hB9.r
                obtain ⟨⟨AR, cR, rfl, -, cRm, -, -⟩, -⟩ := id hR9.ents
                have cLen := fun x : Later w5 => (tab_Len (hT9.next x.ok))
                simp only [hLn, ← hN9] at cLen
                have frL := fun x : Later w5 => (hR9.1.next x.ok).cell 0 (by simp)
                simp only [List.getElem_cons_zero, ← hN9] at frL
                have HB9 := Lib.hid hB9
                have HN9 := Lib.hid hN9
                have hN9' : N9 ≤ k + 1 := by omega
                clear hT9 hR9 hLn hB9 hN9 hL9
                rw [← HN9.out] at HB9
                go_wp2_with fail
                refine wp_region_below (by kernel_rfl) (by kernel_rfl) ?_
                repeat (first | go_big_quiet_skip | (go_big_quiet_want; go_big_quiet_op; go_big_quiet_on) | (go_big_quiet_want; go_big_quiet_op; apply Exists.intro; refine ⟨fun x => ?_, ?_⟩; (first | (go_at_call 41; exact calls_same x (cLen x))); go_big_quiet_on))
                refine wpQuiet_nil ?_
                intro _ hx
                obtain ⟨⟨w99, hb99⟩, rfl⟩ := hx
                rename_i w99
                have HF := Lib.hid (HB9.out.next hb99)
                clear frL cLen
                go_wp2
                go_roundw
                case rel => exact ⟨k + 1, O9, L9, vt9, _, by omega, by go_num, HF.out, by rw [← HN9.out]; exact hN9'⟩
                case measure => simp [intOf]; omega
              · have n7 : ((q : Int) == 7) = false := by simp; omega
                go_wp2_with fail
                have hx := HX.out
                have hBw := HB.out.next (below_lit wr (.cells #[.int .u8 (kd : Nat), .int .u64 (x1 : Nat), .int .i64 x2, .int .i64 x3, .int .i64 to] 53))
                obtain ⟨X, hX⟩ : ∃ X, X = wr.heap.size := ⟨_, rfl⟩
                have hgX : g < X := by rw [hX]; exact HB.out.t.1.lt
                have hrX : gr < X := by rw [hX]; exact HB.out.r.1.lt
                have hvX : ∀ j, vr.ownBlock = some j → j < X := by rw [hX]; exact own_ltP HB.out.r.2.1
                rw [← hX] at hx ⊢
                generalize wr.alloc (.cells #[.int .u8 (kd : Nat), .int .u64 (x1 : Nat), .int .i64 x2, .int .i64 x3, .int .i64 to] 53) = W at hx hBw ⊢
                have hXW : X < W.heap.size := (Array.getElem?_eq_some_iff.1 hx).1
                have HX2 := Lib.hid hx
                have HBW := Lib.hid hBw
                have hOl : O.length ≤ 150 := by rw [hBw.len]; omega
                have hso := hBw.t.2.2.2
                clear f0 f1 f2 f3 f4 m0 m1 m2 m3 m4 hne9 hblt hX hx hBw HX HB

                have hB1 := HBW.out.next (w' := W.drew) (Below.refl _ _).drew
                obtain ⟨B, hBv⟩ : ∃ B, B = !decide ((x1, x2, x3) ∈ L) := ⟨_, rfl⟩
                have cT := tab_Add hB1.t (x1, x2, x3) oe (by omega) hB1.below.size
                have hbB : addB O (x1, x2, x3) = B := by rw [hBv, addB_mem hso, decide_eq_decide.2 (HBW.out.mem _)]
                rw [hbB] at cT
                have hS := fun (w' : World) (e : w'.heap[X]? = W.heap[X]?) => (show w'.cell? ⟨X, 1, none⟩ = some (.int .u64 (x1 : Nat)) ∧ w'.cell? ⟨X, 2, none⟩ = some (.int .i64 x2) ∧ w'.cell? ⟨X, 3, none⟩ = some (.int .i64 x3) from ⟨(box5 HX2.out e).2.1, (box5 HX2.out e).2.2.1, (box5 HX2.out e).2.2.2.1⟩)
                have HS := Lib.hid hS
                have HBv := Lib.hid hBv
                have HCT := Lib.hid cT
                have hLl : L.length ≤ 150 := by omega
                have haL : (addL L (x1, x2, x3)).length ≤ k + 1 := by unfold addL; split <;> (try simp only [List.length_append, List.length_singleton]) <;> omega
                clear hS hBv hbB cT
                go_region_held3 (fun w' => w'.cell? ⟨X, 1, none⟩ = some (.int .u64 (x1 : Nat)) ∧ w'.cell? ⟨X, 2, none⟩ = some (.int .i64 x2) ∧ w'.cell? ⟨X, 3, none⟩ = some (.int .i64 x3)) (first | exact HS.out _ e2 | exact HS.out _ e1 | exact HS.out _ rfl | fail)
                  (first
                    | (go_at_call 40; have cR := r_Add hH.r (x1, x2, x3) oe (by omega) hH.below.size; rw [← HBv.out] at cR; refine cR.mono ?_; rintro e w5 ⟨rfl, vr5, hr5, hk5, hv5⟩; have hB5 := hH.add hso HBW.out.mem HBW.out.len hr5 hk5 hv5; have e2 : w5.heap[X]? = W.heap[X]? := (hk5.block X hX4 (Nat.ne_of_gt hrX) (fun h9 => absurd (hvX X h9.symm) (Nat.lt_irrefl _))).trans e1)
                    | (go_at_call 39; refine HCT.out.mono ?_; rintro e w4 ⟨rfl, vt4, ht4, hg4, hv4⟩; have hH := hB1.add ht4 hg4 hv4; have e1 : w4.heap[X]? = W.heap[X]? := hg4.block X hXW (fun h9 => absurd (Option.some.inj h9) (Nat.ne_of_gt hgX)); have hX4 : X < w4.heap.size := Nat.lt_of_lt_of_le hXW hg4.size)
                    | fail)
                clear hH e1 e2 ht4 hg4 hv4 hr5 hk5 hv5 hB1 HS HCT

                obtain ⟨O9, L9, vt9, vr9, hB9, hL9⟩ : ∃ O9 L9 vt9 vr9, Both w w5 g gr vt9 vr9 O9 L9 ∧ L9.length ≤ k + 1 := ⟨_, _, _, _, hB5, haL⟩

                have hLn : O9.length = L9.length := hB9.len
                obtain ⟨N9, hN9⟩ : ∃ N, N = L9.length := ⟨_, rfl⟩
                have hT9 := hB9.t
                have hR9 := hB9.r
                obtain ⟨⟨AR, cR, rfl, -, cRm, -, -⟩, -⟩ := id hR9.ents
                have cLen := fun x : Later w5 => (tab_Len (hT9.next x.ok))
                simp only [hLn, ← hN9] at cLen
                have frL := fun x : Later w5 => (hR9.1.next x.ok).cell 0 (by simp)
                simp only [List.getElem_cons_zero, ← hN9] at frL
                have HB9 := Lib.hid hB9
                have HN9 := Lib.hid hN9
                have hN9' : N9 ≤ k + 1 := by omega
                clear hT9 hR9 hLn hB9 hN9 hL9
                rw [← HN9.out] at HB9
                go_wp2_with fail
                refine wp_region_below (by kernel_rfl) (by kernel_rfl) ?_
                repeat (first | go_big_quiet_skip | (go_big_quiet_want; go_big_quiet_op; go_big_quiet_on) | (go_big_quiet_want; go_big_quiet_op; apply Exists.intro; refine ⟨fun x => ?_, ?_⟩; (first | (go_at_call 41; exact calls_same x (cLen x))); go_big_quiet_on))
                refine wpQuiet_nil ?_
                intro _ hx
                obtain ⟨⟨w99, hb99⟩, rfl⟩ := hx
                rename_i w99
                have HF := Lib.hid (HB9.out.next hb99)
                clear frL cLen
                go_wp2
                go_roundw
                case rel => exact ⟨k + 1, O9, L9, vt9, _, by omega, by go_num, HF.out, by rw [← HN9.out]; exact hN9'⟩
                case measure => simp [intOf]; omega
      · have i1 : ¬ (k : Int) < n := by omega
        have hOl : O.length ≤ 150 := by rw [hB.len]; omega
        have HB := Lib.hid hB
        clear hB
        go_wp2_with fail
        refine (tab_Dump HB.out.t (by omega)).mono ?_
        rintro e w4 ⟨v4, rfl, hown4, hb4⟩
        have hB4 := HB.out.next hb4
        have cD := r_Dump hB4.r (by rw [← HB.out.len]; omega)
        rw [hB4.sort] at cD
        go_wp2_with fail
        refine cD.mono ?_
        rintro e w5 ⟨v5, rfl, hown5, hb5⟩
        clear cD
        go_wp2_with fail
        refine (ex_Same w5 v4 v5 O O true ⟨(Reads.of_own hown4).next hb5, HB.out.t.2.2.1⟩ ⟨Reads.of_own hown5, HB.out.t.2.2.1⟩ (by simp)).mono ?_
        rintro e w6 ⟨rfl, hb6⟩
        clear hown4 hown5
        go_wp2_with fail
        refine (law_kept w6).mono ?_
        rintro e w7 ⟨rfl, hb7⟩
        go_wp2
        go_ret
        exact ⟨rfl, below_chain HB.out.below (below_chain hb4 (below_chain hb5 (below_chain hb6 hb7)))⟩
  · have i0 : (150 : Int) < n := by omega
    go_enter Try.func8, Try.ntmps8
    go_wp2_with fail
    refine (law_kept w).mono ?_
    rintro e w1 ⟨rfl, hb1⟩
    go_wp2
    go_ret
    exact ⟨rfl, hb1⟩
end Go.Proofs.Ytikodobglhjoiaa
