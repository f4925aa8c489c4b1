/-
  Rows.EntriesAskSaid: of any entries, put in order, where one would be, which ones are of a hash in a range of versions, and the last one, is the document's; the list stays, what is told is new memory.
-/
import Derived.Test.YtikodobglhjoiaaOpenEnt
import Derived.Test.YtikodobglhjoiaaEntered
import Derived.Test.YtikodobglhjoiaaEntSort
namespace Go.Proofs.Ytikodobglhjoiaa
open Go.RowKit
set_option linter.unusedVariables false

/-- A region whose orders all come to one end, but for a value that they make. -/
theorem wp_meetE {α : Type} {P : Program} {c : Code} {Q : Exit → Act → World → Prop} {a : Act} {w : World} (R : α → World → Prop) (A : α → Act) (h1 : c.wp P (fun e a' w' => e = .normal ∧ ∃ x, a' = A x ∧ R x w') a w) (h2 : ∀ x w', R x w' → Q .normal (A x) w') : c.wp P Q a w :=
  Code.wp_mono (fun e a' w' h => by obtain ⟨rfl, x, rfl, h⟩ := h; exact h2 x w' h) h1
theorem infoU64 : (Try.prog.info? 23).map (fun i => (i.zero, i.size, i.bytes)) = some (some (.int .u64 0), 1, 8) := by kernel_rfl
def u64C (xs : List Nat) : List Value := xs.map (fun n : Nat => Value.int .u64 (n : Int))
theorem u64C_one (l : List Nat) : ∀ u ∈ u64C l, u.oneCell' = true := by
  intro u hu
  obtain ⟨n, _, rfl⟩ := List.mem_map.1 hu
  rfl

theorem Reads.at_ {w : World} {A : Option Addr} {n c : Nat} {xs : List Value} (h : Reads w (.slice A n c) 1 n xs) (h0 : 0 < n) : ∃ b off, A = some ⟨b, off, none⟩ ∧ n ≤ c ∧ c ≤ maxLen ∧ xs.length = n ∧ ∀ (w' : World), Below w.heap.size w w' → ∀ j (h : j < xs.length), w'.cell? ⟨b, off + j, none⟩ = some xs[j] := by
  obtain ⟨A', c', hv, h1, h2, hl, hc⟩ := h
  obtain ⟨rfl, -, rfl⟩ := Value.slice.inj hv
  obtain ⟨b, off, rfl, hlt, hcell⟩ := hc h0
  exact ⟨b, off, rfl, h1, h2, by omega, fun w' hb j hj => (hb.cell (p := ⟨b, off + j, none⟩) hlt).trans (hcell j hj)⟩
theorem reads_two (w : World) (a b : Nat) : Reads (w.alloc (.cells #[.int .u64 a, .int .u64 b] 23)) (.slice (some ⟨w.heap.size, 0, none⟩) 2 2) 1 2 (u64C [a, b]) := Reads.of_row (Row.new w #[.int .u64 a, .int .u64 b] 23) rfl (Nat.le_refl _) (by unfold maxLen; omega)
set_option maxRecDepth 100000 in
set_option maxHeartbeats 4000000 in
theorem EntriesAsk_walk (v0 : Value) (l : List Ent) (v1 : Value) (one : Ent) (to : Int) (w : World) (hl : Ents w v0 l) (h1 : EntIs v1 one) (ht : -9223372036854775808 ≤ to ∧ to ≤ 9223372036854775807) :
    Calls Try.prog 3 #[v0, v1, .int .i64 to] w fun e w' => e = .returned (.bool true) ∧ Below w.heap.size w w' := by
  obtain ⟨rfl, ho⟩ := h1
  obtain ⟨⟨A, c, rfl, -, -, -, -⟩, -⟩ := id hl
  obtain ⟨-, hc1, hc2, -⟩ := hl.cells
  unfold maxLen at hc2
  have hz := below_lit w (.cells (entC one) 25)
  have bx := fun w' hb => ent_box w one 25 w' hb
  have hl0 := hl.next hz
  obtain ⟨o1, o2, o3⟩ := one
  obtain ⟨ho1, ho2, ho3⟩ := ho
  simp only [] at ho1 ho2 ho3 bx
  by_cases hlen : l.length ≤ 100
  · have i1 : ¬ (100 : Int) < l.length := by omega
    obtain ⟨i0, hi0, hz0, hz1, hz2⟩ := info_parts infoEnt
    obtain ⟨j0, hj0, hy0, hy1, hy2⟩ := info_parts infoU64
    have hsl := sortE_length l
    have hso := sortE_sorted l
    have hcl := fun h0 => hl.later h0
    have hlok := hl.2
    obtain ⟨n, hn⟩ : ∃ n, n = l.length := ⟨_, rfl⟩
    rw [← hn] at hl0 i1 hlen hsl hc1 ⊢
    rw [← hn] at hcl
    have Hl0 := Lib.hid hl0
    have Hlok := Lib.hid hlok
    have Bx := Lib.hid bx
    have Hso := Lib.hid hso
    have Hcl := Lib.hid hcl
    have Hn := Lib.hid hn
    clear hl hl0 bx hso hlok hcl hn
    go_enter Try.func3, Try.ntmps3
    go_wp2_with fail
    refine (ref_Sort _ l _ Hl0.out (by rw [← Hn.out]; omega)).mono ?_
    rintro e w1 ⟨vm, rfl, hm, hb1⟩
    have hMok : ∀ x ∈ sortE l, okE x := fun x hx => Hlok.out x (mem_sortE.1 hx)
    have hM : Ents w1 vm (sortE l) := ⟨Reads.of_own hm, hMok⟩
    generalize sortE l = M at hM hm hMok hsl Hso
    have HMok := Lib.hid hMok
    clear hm hMok
    have hown0 : w1.ownsRow w1.heap.size 25 3 (.slice none 0 0) 0 [] := World.ownsRow_nil _ _ _ _
    have hrM := hM.1
    have hB1 : Below w.heap.size w w1 := below_chain hz hb1
    rcases Nat.eq_zero_or_pos n with h0 | h0
    · have d0 : ¬ (0 : Int) < (n : Int) := by omega
      clear h0
      go_wp2_with (first
        | (at_builtin; refine wpList_append_reads _ rfl _ _ 22 rfl w1.heap.size 25 i0 _ 3 24 Try.underlying22 hi0 hz0 hz1 hz2 rfl (by decide) (.slice none 0 0) 0 [] rfl hown0 _ _ _ rfl hrM (entsC_one _) (by unfold maxLen; omega) (by omega) (Nat.le_refl _) ?_; intro vo w2 hown2 hg2; have hb2 : Below w1.heap.size w1 w2 := (Below.refl _ _).grown hg2 (Nat.le_refl _) (own_block_ge hown0); obtain ⟨q0, q1, q2⟩ := Bx.out w2 (below_chain hb1 hb2)))
      have hH : Reads (w2.alloc (.cells #[.int .u64 o1] 23)) (.slice (some ⟨w2.heap.size, 0, none⟩) 1 1) 1 [o1].length (u64C [o1]) := Reads.of_row (Row.new w2 #[.int .u64 o1] 23) rfl (Nat.le_refl _) (by unfold maxLen; omega)
      have hHb : ∀ h ∈ [o1], h < 18446744073709551616 := fun h hh => by rw [List.mem_singleton.1 hh]; exact ho1
      have hb3 := below_chain hb2 (below_lit w2 (.cells #[.int .u64 o1] 23))
      have hM3 := hM.next hb3
      have hO3 : Ents (w2.alloc (.cells #[.int .u64 o1] 23)) vo M := Ents.next ⟨by simpa using Reads.of_own hown2, HMok.out⟩ (below_lit w2 (.cells #[.int .u64 o1] 23))
      have hB3 := below_chain hB1 hb3
      have hZ3 := below_chain hb1 hb3
      generalize Value.slice (some ⟨w2.heap.size, 0, none⟩) 1 1 = vh at hH ⊢
      have hHl : [o1].length ≤ 3 := by simp
      generalize [o1] = H at hH hHb hHl
      generalize w2.alloc (.cells #[.int .u64 o1] 23) = w3 at hH hM3 hO3 hB3 hZ3 ⊢
      have dn : decide (0 < n) = false := decide_eq_false (by omega)
      simp only [dn]
      clear hb1 hb2 hb3 hown2 hg2 q0 q1 q2 hrM hown0 hM hB1 d0 dn
      obtain ⟨N, hN⟩ : ∃ N, N = H.length := ⟨_, rfl⟩
      rw [← hN] at hH hHl
      obtain ⟨Ah, ch, rfl, -, -, -, -⟩ := id hH
      have HH := Lib.hid hH
      have HHb := Lib.hid hHb
      have HM3 := Lib.hid hM3
      have HO3 := Lib.hid hO3
      have HN := Lib.hid hN
      clear hH hHb hM3 hO3 hN
      go_loopw [10] (fun i wr => ∃ k : Nat, k ≤ N ∧ i = .int .i64 (k : Int) ∧ Below w3.heap.size w3 wr) (fun i _ => N - (intOf i).toNat)
      case atStart => exact ⟨0, by omega, rfl, Below.refl _ _⟩
      case round =>
        obtain ⟨k, hk, rfl, hbr⟩ := hrel
        by_cases hlt : k < N
        · obtain ⟨bh, oh, rfl, -, -, -, hch⟩ := HH.out.at_ (by omega)
          have hkH : k < H.length := by have := HN.out; omega
          have hcx : ∀ w', Below w3.heap.size w3 w' → w'.cell? ⟨bh, oh + k, none⟩ = some (.int .u64 (H[k] : Nat)) := fun w' h => (hch w' h k (by simp [u64C]; omega)).trans (by simp [u64C])
          have hhb := HHb.out H[k] (List.getElem_mem hkH)
          generalize H[k] = h at hcx hhb
          have hS := fun w' (hb : Below wr.heap.size wr w') => (⟨hb, hcx w' (below_chain hbr hb), (Bx.out w' (below_chain hZ3 (below_chain hbr hb))).2.1⟩ : Below wr.heap.size wr w' ∧ w'.cell? ⟨bh, oh + k, none⟩ = some (.int .u64 h) ∧ w'.cell? ⟨w.heap.size, 1, none⟩ = some (.int .i64 o2))
          have HS := Lib.hid hS
          have i2 : (k : Int) < N := by omega
          have D0 : Below wr.heap.size wr wr.drew := (Below.refl _ _).drew
          clear hS hch hcx
          have HO4 := Lib.hid (HO3.out.next hbr)
          have HM4 := Lib.hid (HM3.out.next hbr)
          go_wp2_with fail
          go_region_held3 (fun w' => Below wr.heap.size wr w' ∧ w'.cell? ⟨bh, oh + k, none⟩ = some (.int .u64 h) ∧ w'.cell? ⟨w.heap.size, 1, none⟩ = some (.int .i64 o2)) (first | (exact HS.out _ k1) | (exact HS.out _ D0) | fail)
            (first
              | (go_at_call 16; refine (entries_Range _ M h o2 to _ (HO4.out.next D0) Hso.out (by omega) hhb ho2 ht).mono ?_; rintro e w4 ⟨vr, rfl, hown, hb⟩; have k1 : Below wr.heap.size wr w4 := below_chain D0 hb)
              | fail)
          go_wp2_with fail
          have cL := fun w hw => entries_Last vo M h o2 w hw Hso.out hhb ho2
          have cR := fun w hw => ref_Last vm M h o2 w hw hhb ho2
          generalize entO (lastE M h o2) = z at cL cR
          generalize (lastE M h o2).isSome = zb at cL cR
          obtain ⟨z1, z2, z3⟩ := z
          unfold entC at cL cR
          have D1 : Below wr.heap.size wr w4.drew := k1.drew
          have D1b : Below wr.heap.size wr (w4.alloc (.cells #[.int .u64 0, .int .i64 0, .int .i64 0] 25)).drew := (below_chain k1 (below_lit w4 (.cells #[.int .u64 0, .int .i64 0, .int .i64 0] 25))).drew
          have E1 : Below w4.heap.size w4 w4.drew := (Below.refl _ _).drew
          have E1b : Below w4.heap.size w4 (w4.alloc (.cells #[.int .u64 0, .int .i64 0, .int .i64 0] 25)).drew := (below_lit w4 (.cells #[.int .u64 0, .int .i64 0, .int .i64 0] 25)).drew
          have hrow0 : Row (w4.alloc (.cells #[.int .u64 0, .int .i64 0, .int .i64 0] 25)).drew w4.heap.size 25 [.int .u64 0, .int .i64 0, .int .i64 0] := Row.new w4 #[.int .u64 0, .int .i64 0, .int .i64 0] 25
          have Hrow0 := Lib.hid hrow0
          clear hrow0
          apply wp_meetE (α := Nat) (fun g w' => Below wr.heap.size wr w' ∧ Below w4.heap.size w4 w' ∧ Row w' g 25 [.int .u64 (z1 : Nat), .int .i64 z2, .int .i64 z3])
          · go_region_held3 (fun w' => Below wr.heap.size wr w' ∧ w'.cell? ⟨bh, oh + k, none⟩ = some (.int .u64 h) ∧ w'.cell? ⟨w.heap.size, 1, none⟩ = some (.int .i64 o2)) (first | (exact HS.out _ (below_chain k2 (below_lit _ _))) | (exact HS.out _ (((k2.setCell k1.size _).setCell k1.size _).setCell k1.size _)) | (exact HS.out _ k2) | (exact HS.out _ D1) | (exact HS.out _ D1b) | fail)
              (first
                | (go_at_call 17; refine (cL _ (HO4.out.next (by first | exact D1 | exact D1b))).mono ?_; rintro e w5 ⟨rfl, hb⟩; first | (have k2 : Below wr.heap.size wr w5 := below_chain D1 hb; have e12 : Below w4.heap.size w4 w5 := below_chain E1 hb) | (have k2 : Below wr.heap.size wr w5 := below_chain D1b hb; have e12 : Below w4.heap.size w4 w5 := below_chain E1b hb; have hrow := Hrow0.out.next hb; have r0 := hrow.cell 0 (by simp); have r1 := hrow.cell 1 (by simp); have r2 := hrow.cell 2 (by simp); have f0 := hrow.frozen 0 (by simp); have f1 := hrow.frozen 1 (by simp); have f2 := hrow.frozen 2 (by simp); simp only [List.getElem_cons_zero, List.getElem_cons_succ] at r0 r1 r2))
                | fail)
            all_goals first
              | (have hR : Below wr.heap.size wr (w5.alloc (.cells #[.int .u64 z1, .int .i64 z2, .int .i64 z3] 25)) ∧ Below w4.heap.size w4 (w5.alloc (.cells #[.int .u64 z1, .int .i64 z2, .int .i64 z3] 25)) ∧ Row (w5.alloc (.cells #[.int .u64 z1, .int .i64 z2, .int .i64 z3] 25)) w5.heap.size 25 [.int .u64 (z1 : Nat), .int .i64 z2, .int .i64 z3] := ⟨below_chain k2 (below_lit _ _), below_chain e12 (below_lit _ _), Row.new w5 #[.int .u64 (z1 : Nat), .int .i64 z2, .int .i64 z3] 25⟩
                 revert hR
                 generalize w5.heap.size = g
                 intro hR
                 exact ⟨rfl, g, rfl, hR⟩)
              | (have hR : Below wr.heap.size wr (((w5.setCell ⟨w4.heap.size, 0, none⟩ (.int .u64 (z1 : Nat))).setCell ⟨w4.heap.size, 1, none⟩ (.int .i64 z2)).setCell ⟨w4.heap.size, 2, none⟩ (.int .i64 z3)) ∧ Below w4.heap.size w4 (((w5.setCell ⟨w4.heap.size, 0, none⟩ (.int .u64 (z1 : Nat))).setCell ⟨w4.heap.size, 1, none⟩ (.int .i64 z2)).setCell ⟨w4.heap.size, 2, none⟩ (.int .i64 z3)) ∧ Row (((w5.setCell ⟨w4.heap.size, 0, none⟩ (.int .u64 (z1 : Nat))).setCell ⟨w4.heap.size, 1, none⟩ (.int .i64 z2)).setCell ⟨w4.heap.size, 2, none⟩ (.int .i64 z3)) w4.heap.size 25 [.int .u64 (z1 : Nat), .int .i64 z2, .int .i64 z3] :=
                   ⟨((k2.setCell k1.size _).setCell k1.size _).setCell k1.size _, ((e12.setCell (Nat.le_refl _) _).setCell (Nat.le_refl _) _).setCell (Nat.le_refl _) _, ((hrow.set 0 _).set 1 _).set 2 _⟩
                 clear hrow r0 r1 r2 f0 f1 f2
                 revert hR
                 generalize hgg : w4.heap.size = g
                 intro hR
                 exact ⟨rfl, g, rfl, hR⟩)
          intro g1 w6 ⟨k6, e6, row6⟩
          clear D1 D1b E1 E1b
          go_wp2_with fail
          have D1 : Below wr.heap.size wr w6.drew := k6.drew
          have D1b : Below wr.heap.size wr (w6.alloc (.cells #[.int .u64 0, .int .i64 0, .int .i64 0] 25)).drew := (below_chain k6 (below_lit w6 (.cells #[.int .u64 0, .int .i64 0, .int .i64 0] 25))).drew
          have E1 : Below w6.heap.size w6 w6.drew := (Below.refl _ _).drew
          have E1b : Below w6.heap.size w6 (w6.alloc (.cells #[.int .u64 0, .int .i64 0, .int .i64 0] 25)).drew := (below_lit w6 (.cells #[.int .u64 0, .int .i64 0, .int .i64 0] 25)).drew
          have hrow0 : Row (w6.alloc (.cells #[.int .u64 0, .int .i64 0, .int .i64 0] 25)).drew w6.heap.size 25 [.int .u64 0, .int .i64 0, .int .i64 0] := Row.new w6 #[.int .u64 0, .int .i64 0, .int .i64 0] 25
          have Hrow0 := Lib.hid hrow0
          clear hrow0
          apply wp_meetE (α := Nat) (fun g w' => Below wr.heap.size wr w' ∧ Below w6.heap.size w6 w' ∧ Row w' g 25 [.int .u64 (z1 : Nat), .int .i64 z2, .int .i64 z3])
          · go_region_held3 (fun w' => Below wr.heap.size wr w' ∧ w'.cell? ⟨bh, oh + k, none⟩ = some (.int .u64 h) ∧ w'.cell? ⟨w.heap.size, 1, none⟩ = some (.int .i64 o2)) (first | (exact HS.out _ (below_chain k3 (below_lit _ _))) | (exact HS.out _ (((k3.setCell k6.size _).setCell k6.size _).setCell k6.size _)) | (exact HS.out _ k3) | (exact HS.out _ D1) | (exact HS.out _ D1b) | fail)
              (first
                | (go_at_call 18; refine (cR _ (HM4.out.next (by first | exact D1 | exact D1b))).mono ?_; rintro e w7 ⟨rfl, hb⟩; first | (have k3 : Below wr.heap.size wr w7 := below_chain D1 hb; have e12 : Below w6.heap.size w6 w7 := below_chain E1 hb) | (have k3 : Below wr.heap.size wr w7 := below_chain D1b hb; have e12 : Below w6.heap.size w6 w7 := below_chain E1b hb; have hrow := Hrow0.out.next hb; have r0 := hrow.cell 0 (by simp); have r1 := hrow.cell 1 (by simp); have r2 := hrow.cell 2 (by simp); have f0 := hrow.frozen 0 (by simp); have f1 := hrow.frozen 1 (by simp); have f2 := hrow.frozen 2 (by simp); simp only [List.getElem_cons_zero, List.getElem_cons_succ] at r0 r1 r2))
                | fail)
            all_goals first
              | (have hR : Below wr.heap.size wr (w7.alloc (.cells #[.int .u64 z1, .int .i64 z2, .int .i64 z3] 25)) ∧ Below w6.heap.size w6 (w7.alloc (.cells #[.int .u64 z1, .int .i64 z2, .int .i64 z3] 25)) ∧ Row (w7.alloc (.cells #[.int .u64 z1, .int .i64 z2, .int .i64 z3] 25)) w7.heap.size 25 [.int .u64 (z1 : Nat), .int .i64 z2, .int .i64 z3] := ⟨below_chain k3 (below_lit _ _), below_chain e12 (below_lit _ _), Row.new w7 #[.int .u64 (z1 : Nat), .int .i64 z2, .int .i64 z3] 25⟩
                 revert hR
                 generalize w7.heap.size = g
                 intro hR
                 exact ⟨rfl, g, rfl, hR⟩)
              | (have hR : Below wr.heap.size wr (((w7.setCell ⟨w6.heap.size, 0, none⟩ (.int .u64 (z1 : Nat))).setCell ⟨w6.heap.size, 1, none⟩ (.int .i64 z2)).setCell ⟨w6.heap.size, 2, none⟩ (.int .i64 z3)) ∧ Below w6.heap.size w6 (((w7.setCell ⟨w6.heap.size, 0, none⟩ (.int .u64 (z1 : Nat))).setCell ⟨w6.heap.size, 1, none⟩ (.int .i64 z2)).setCell ⟨w6.heap.size, 2, none⟩ (.int .i64 z3)) ∧ Row (((w7.setCell ⟨w6.heap.size, 0, none⟩ (.int .u64 (z1 : Nat))).setCell ⟨w6.heap.size, 1, none⟩ (.int .i64 z2)).setCell ⟨w6.heap.size, 2, none⟩ (.int .i64 z3)) w6.heap.size 25 [.int .u64 (z1 : Nat), .int .i64 z2, .int .i64 z3] :=
                   ⟨((k3.setCell k6.size _).setCell k6.size _).setCell k6.size _, ((e12.setCell (Nat.le_refl _) _).setCell (Nat.le_refl _) _).setCell (Nat.le_refl _) _, ((hrow.set 0 _).set 1 _).set 2 _⟩
                 clear hrow r0 r1 r2 f0 f1 f2
                 revert hR
                 generalize hgg : w6.heap.size = g
                 intro hR
                 exact ⟨rfl, g, rfl, hR⟩)
          intro g2 w8 ⟨k8, e8, row8⟩
          clear D1 D1b E1 E1b
          go_wp2_with fail
          have e68 := e8
          have HS8 := Lib.hid (show ∀ w', Below w8.heap.size w8 w' → Below w8.heap.size w8 w' ∧ w'.cell? ⟨bh, oh + k, none⟩ = some (.int .u64 h) ∧ w'.cell? ⟨w.heap.size, 1, none⟩ = some (.int .i64 o2) ∧ w'.cell? ⟨g1, 0, none⟩ = some (.int .u64 z1) ∧ w'.cell? ⟨g1, 1, none⟩ = some (.int .i64 z2) ∧ w'.cell? ⟨g1, 2, none⟩ = some (.int .i64 z3) ∧
              w'.cell? ⟨g2, 0, none⟩ = some (.int .u64 z1) ∧ w'.cell? ⟨g2, 1, none⟩ = some (.int .i64 z2) ∧ w'.cell? ⟨g2, 2, none⟩ = some (.int .i64 z3) from fun w' hb => by
            obtain ⟨-, f1, f2⟩ := HS.out w' (below_chain k8 hb)
            have r1 := row6.next (below_chain e8 hb)
            have r2 := row8.next hb
            exact ⟨hb, f1, f2, r1.cell 0 (by simp), r1.cell 1 (by simp), r1.cell 2 (by simp), r2.cell 0 (by simp), r2.cell 1 (by simp), r2.cell 2 (by simp)⟩)
          have HO8 := Lib.hid (HO4.out.next k8)
          have HM8 := Lib.hid (HM4.out.next k8)
          have hR8 : Ents w8 vr (rangeE M h o2 to) := Ents.next ⟨Reads.of_own hown, fun x hx => HMok.out x (List.mem_filter.1 hx).1⟩ (below_chain e6 e8)
          have HR8 := Lib.hid hR8
          have D8 : Below w8.heap.size w8 w8.drew := (Below.refl _ _).drew
          have cS := fun w hw => entries_Search vo M h o2 w hw Hso.out hhb ho2
          have cT := fun w hw => ref_Search vm M h o2 w hw hhb ho2
          generalize searchE M h o2 = sv at cS cT
          clear hR8 cL cR row6 row8
          apply wp_meetE (α := Value) (fun x w' => Below w8.heap.size w8 w')
          · go_region_held3 (fun w' => Below w8.heap.size w8 w' ∧ w'.cell? ⟨bh, oh + k, none⟩ = some (.int .u64 h) ∧ w'.cell? ⟨w.heap.size, 1, none⟩ = some (.int .i64 o2) ∧ w'.cell? ⟨g1, 0, none⟩ = some (.int .u64 z1) ∧ w'.cell? ⟨g1, 1, none⟩ = some (.int .i64 z2) ∧ w'.cell? ⟨g1, 2, none⟩ = some (.int .i64 z3) ∧
                w'.cell? ⟨g2, 0, none⟩ = some (.int .u64 z1) ∧ w'.cell? ⟨g2, 1, none⟩ = some (.int .i64 z2) ∧ w'.cell? ⟨g2, 2, none⟩ = some (.int .i64 z3)) (first | (exact HS8.out _ e4) | (exact HS8.out _ e3) | (exact HS8.out _ e2) | (exact HS8.out _ e1) | (exact HS8.out _ D8) | fail)
              (first
                | (go_at_call 21; refine (ex_Same _ vr vq (rangeE M h o2 to) (rangeE M h o2 to) true (HR8.out.next e3) hq (by simp)).mono ?_; rintro e w12 ⟨rfl, hb⟩; have e4 : Below w8.heap.size w8 w12 := below_chain e3 hb)
                | (go_at_call 22; refine (ref_Range _ M h o2 to _ (HM8.out.next (by first | exact e1 | exact e2)) (by omega) hhb ho2 ht).mono ?_; rintro e w11 ⟨vq, rfl, hownq, hb⟩; have e3 : Below w8.heap.size w8 w11 := below_chain (by first | exact e1 | exact e2) hb; have hq : Ents w11 vq (rangeE M h o2 to) := ⟨Reads.of_own hownq, fun x hx => HMok.out x (List.mem_filter.1 hx).1⟩)
                | (go_at_call 19; refine (cS _ (HO8.out.next (by first | exact D8 | exact e2))).mono ?_; rintro e w9 ⟨rfl, hb⟩; have e1 : Below w8.heap.size w8 w9 := below_chain (by first | exact D8 | exact e2) hb)
                | (go_at_call 20; refine (cT _ (HM8.out.next (by first | exact D8 | exact e1))).mono ?_; rintro e w10 ⟨rfl, hb⟩; have e2 : Below w8.heap.size w8 w10 := below_chain (by first | exact D8 | exact e1) hb)
                | fail)
            all_goals exact ⟨rfl, vq, rfl, e4⟩
          · intro vq w9 e9
            have hown9 := own_next hown (below_chain (below_chain e6 e8) e9)
            have hb9 : Below wr.heap.size wr w9 := below_chain k8 e9
            generalize (rangeE M h o2 to).length = R at hown9 HR8
            generalize entsC (rangeE M h o2 to) = xs0 at hown9
            have hx0 := hown9.1
            rcases id hown9.2 with ⟨rfl, rfl⟩ | ⟨g, cap, cur, rfl, hbg, hg, hnc, hcm, -, -⟩
            · go_wp2_with fail
              go_loopw [16] (fun j wi => j = .int .i64 0 ∧ Below wr.heap.size wr wi) (fun j _ => 0)
              case atStart => exact ⟨rfl, hb9⟩
              case round =>
                obtain ⟨rfl, hbi⟩ := hrel
                go_wp2
                go_roundw
                case rel => exact ⟨k + 1, by omega, by go_num, below_chain hbr hbi⟩
                case measure => simp [intOf]; omega
            · have hrow9 : Row w9 g 25 xs0 := Row.of_own hown9
              have hge : wr.heap.size ≤ g := hbg
              unfold maxLen at hcm
              clear hown9
              go_wp2_with fail
              go_loopw [16] (fun j wi => ∃ q : Nat, q ≤ R ∧ j = .int .i64 (q : Int) ∧ (∃ xs : List Value, xs.length = R * 3 ∧ Row wi g 25 xs) ∧ Below wr.heap.size wr wi) (fun j _ => R - (intOf j).toNat)
              case atStart => exact ⟨0, by omega, rfl, ⟨xs0, hx0, hrow9⟩, hb9⟩
              case round =>
                obtain ⟨q, hq, rfl, ⟨xs, hxl, hrow⟩, hbi⟩ := hrel
                by_cases hqR : q < R
                · have r0 := hrow.cell (q * 3) (by omega)
                  have r1 := hrow.cell (q * 3 + 1) (by omega)
                  have r2 := hrow.cell (q * 3 + 2) (by omega)
                  have f0 := hrow.frozen (q * 3) (by omega)
                  have f1 := hrow.frozen (q * 3 + 1) (by omega)
                  have f2 := hrow.frozen (q * 3 + 2) (by omega)
                  generalize xs[q * 3]'(by omega) = c0 at r0
                  generalize xs[q * 3 + 1]'(by omega) = c1 at r1
                  generalize xs[q * 3 + 2]'(by omega) = c2 at r2
                  have Hrow := Lib.hid hrow
                  have iq : (q : Int) < R := by omega
                  clear hrow
                  go_wp2
                  go_roundw
                  case rel => exact ⟨q + 1, by omega, by go_num, ⟨_, by simp [hxl], ((Hrow.out.set (q * 3) _).set (q * 3 + 1) _).set (q * 3 + 2) _⟩, ((hbi.setCell hge _).setCell hge _).setCell hge _⟩
                  case measure => simp [intOf]; omega
                · have iq : ¬ (q : Int) < R := by omega
                  have Hrow := Lib.hid hrow
                  clear hrow
                  go_wp2
                  go_roundw
                  case rel => exact ⟨k + 1, by omega, by go_num, below_chain hbr hbi⟩
                  case measure => simp [intOf]; omega
        · have i2 : ¬ (k : Int) < N := by omega
          have hOw := HO3.out.next hbr
          have hMw := HM3.out.next hbr
          have hBw := below_chain hB3 hbr
          have hZw := below_chain hZ3 hbr
          have hLw := Hl0.out.next hZw
          go_wp2_with fail
          refine (ex_Same _ vo vm M M true hOw hMw (by simp)).mono ?_
          rintro e w4 ⟨rfl, hb4⟩
          go_wp2_with fail
          refine (ex_Sorted _ vm M true (hMw.next hb4) Hso.out).mono ?_
          rintro e w5 ⟨rfl, hb5⟩
          have hb45 := below_chain hb4 hb5
          go_wp2_with fail
          refine (entries_Sorted _ l _ (hLw.next hb45)).mono ?_
          rintro e w6 ⟨rfl, hb6⟩
          have hb46 := below_chain hb45 hb6
          go_wp2_with fail
          refine (ref_Sorted _ l _ (hLw.next hb46)).mono ?_
          rintro e w7 ⟨rfl, hb7⟩
          have hb47 := below_chain hb46 hb7
          go_wp2_with fail
          refine (law_entered _).mono ?_
          rintro e w8 ⟨rfl, hb8⟩
          go_wp2
          go_ret
          exact ⟨rfl, below_chain hBw (below_chain hb47 hb8)⟩
    · have d0 : (0 : Int) < (n : Int) := by omega
      obtain ⟨m, hm⟩ : ∃ m, n = m + 1 := ⟨n - 1, by omega⟩
      obtain ⟨x, hx⟩ : ∃ x, l[0]? = some x := ⟨_, List.getElem?_eq_getElem (by rw [← Hn.out]; omega)⟩
      obtain ⟨y, hy⟩ : ∃ y, l[m]? = some y := ⟨_, List.getElem?_eq_getElem (by rw [← Hn.out]; omega)⟩
      obtain ⟨b, off, rfl, -, hcell⟩ := Hcl.out (by omega)
      have wn : IntKind.i64.wrap ((n : Int) - 1) = (m : Int) := by rw [IntKind.wrap_i64]; omega
      have im : (m : Int) < n := by omega
      have i0' : (0 : Int) < n := by omega
      have bxx := Hlok.out x (List.mem_of_getElem? hx)
      have byy := Hlok.out y (List.mem_of_getElem? hy)
      have cx := fun w' hb => (hcell 0 x hx w' hb).1
      have cy := fun w' hb => (hcell m y hy w' hb).1
      obtain ⟨x1, x2, x3⟩ := x
      obtain ⟨y1, y2, y3⟩ := y
      simp only [Nat.zero_mul, Nat.add_zero] at cx cy
      obtain ⟨bx1, -, -⟩ := bxx
      obtain ⟨by1, -, -⟩ := byy
      simp only [] at bx1 by1
      have Cx := Lib.hid cx
      have Cy := Lib.hid cy
      clear h0 hx hy hcell cx cy hm
      go_wp2_with (first
        | (at_builtin; refine wpList_append_reads _ rfl _ _ 22 rfl w1.heap.size 25 i0 _ 3 24 Try.underlying22 hi0 hz0 hz1 hz2 rfl (by decide) (.slice none 0 0) 0 [] rfl hown0 _ _ _ rfl hrM (entsC_one _) (by unfold maxLen; omega) (by omega) (Nat.le_refl _) ?_; intro vo w2 hown2 hg2; have hb2 : Below w1.heap.size w1 w2 := (Below.refl _ _).grown hg2 (Nat.le_refl _) (own_block_ge hown0); obtain ⟨q0, q1, q2⟩ := Bx.out w2 (below_chain hb1 hb2)))
      have hb3 := below_chain hb2 (below_lit w2 (.cells #[.int .u64 o1] 23))
      have HS := Lib.hid (show ∀ w', Below w2.heap.size w2 w' → Below w2.heap.size w2 w' ∧ w'.cell? ⟨b, off, none⟩ = some (.int .u64 x1) ∧ w'.cell? ⟨b, off + m * 3, none⟩ = some (.int .u64 y1) from fun w' hb => ⟨hb, Cx.out w' (below_chain (below_chain hB1 hb2) hb), Cy.out w' (below_chain (below_chain hB1 hb2) hb)⟩)
      have hownH : (w2.alloc (.cells #[.int .u64 o1] 23)).ownsRow w2.heap.size 23 1 (.slice (some ⟨w2.heap.size, 0, none⟩) 1 1) 1 [.int .u64 o1] := World.ownsRow_lit w2 #[.int .u64 o1] 1 (Nat.le_refl _) (by unfold maxLen; omega) rfl
      have D0 : Below w2.heap.size w2 (w2.alloc (.cells #[.int .u64 o1] 23)) := below_lit w2 (.cells #[.int .u64 o1] 23)
      have hR2 : Reads ((w2.alloc (.cells #[.int .u64 o1] 23)).alloc (.cells #[.int .u64 x1, .int .u64 y1] 23)) (.slice (some ⟨w2.heap.size + 1, 0, none⟩) 2 2) 1 2 (u64C [x1, y1]) := by
        have h := reads_two (w2.alloc (.cells #[.int .u64 o1] 23)) x1 y1
        have e : (w2.alloc (.cells #[.int .u64 o1] 23)).heap.size = w2.heap.size + 1 := by simp
        rw [e] at h; exact h
      clear q0 q1 q2
      go_region_held3 (fun w' => Below w2.heap.size w2 w' ∧ w'.cell? ⟨b, off, none⟩ = some (.int .u64 x1) ∧ w'.cell? ⟨b, off + m * 3, none⟩ = some (.int .u64 y1)) (first | (exact HS.out _ hb4) | (exact HS.out _ D0) | (exact HS.out _ D0.drew) | (exact HS.out _ (D0.drew.alloc D0.drew.size _)) | fail)
        (first
          | (refine step_append_reads rfl _ _ 28 rfl w2.heap.size 23 j0 _ 1 8 Try.underlying28 hj0 hy0 hy1 hy2 rfl (by decide) _ 1 _ rfl (own_next hownH (by first | exact (Below.refl _ _).drew.alloc (Nat.le_refl _) _ | exact ((Below.refl _ _).alloc (Nat.le_refl _) _).drew)) _ 2 (u64C [x1, y1]) rfl (by first | exact hR2 | exact Reads.drew' hR2) (u64C_one _) (by unfold maxLen; omega) (by omega) (by first | exact (D0.drew.alloc D0.drew.size _).size | exact (D0.alloc D0.size _).drew.size) ?_; intro vh w3 hown3 hg3; have hb4 : Below w2.heap.size w2 w3 := Below.grown (w := _) (by first | exact D0.drew.alloc D0.drew.size _ | exact (D0.alloc D0.size _).drew) hg3 (by first | exact (D0.drew.alloc D0.drew.size _).size | exact (D0.alloc D0.size _).drew.size) (own_block_ge hownH))
          | fail)
      have hH : Reads w3 vh 1 [o1, x1, y1].length (u64C [o1, x1, y1]) := Reads.of_own hown3
      have hHb : ∀ h ∈ [o1, x1, y1], h < 18446744073709551616 := fun h hh => by
        simp only [List.mem_cons, List.not_mem_nil, or_false] at hh
        rcases hh with rfl | rfl | rfl
        · exact ho1
        · exact bx1
        · exact by1
      have hb3' : Below w1.heap.size w1 w3 := below_chain hb2 hb4
      have hM3 := hM.next hb3'
      have hO3 : Ents w3 vo M := Ents.next ⟨by simpa using Reads.of_own hown2, HMok.out⟩ hb4
      have hB3 := below_chain hB1 hb3'
      have hZ3 := below_chain hb1 hb3'
      clear hown3 hg3
      have hHl : [o1, x1, y1].length ≤ 3 := by simp
      generalize [o1, x1, y1] = H at hH hHb hHl
      clear hb1 hb2 hb3 hb4 hb3' hown2 hg2 hrM hown0 hM hB1 d0 HS hownH D0 hR2
      go_wp2_with fail
      obtain ⟨N, hN⟩ : ∃ N, N = H.length := ⟨_, rfl⟩
      rw [← hN] at hH hHl
      obtain ⟨Ah, ch, rfl, -, -, -, -⟩ := id hH
      have HH := Lib.hid hH
      have HHb := Lib.hid hHb
      have HM3 := Lib.hid hM3
      have HO3 := Lib.hid hO3
      have HN := Lib.hid hN
      clear hH hHb hM3 hO3 hN
      go_loopw [10] (fun i wr => ∃ k : Nat, k ≤ N ∧ i = .int .i64 (k : Int) ∧ Below w3.heap.size w3 wr) (fun i _ => N - (intOf i).toNat)
      case atStart => exact ⟨0, by omega, rfl, Below.refl _ _⟩
      case round =>
        obtain ⟨k, hk, rfl, hbr⟩ := hrel
        by_cases hlt : k < N
        · obtain ⟨bh, oh, rfl, -, -, -, hch⟩ := HH.out.at_ (by omega)
          have hkH : k < H.length := by have := HN.out; omega
          have hcx : ∀ w', Below w3.heap.size w3 w' → w'.cell? ⟨bh, oh + k, none⟩ = some (.int .u64 (H[k] : Nat)) := fun w' h => (hch w' h k (by simp [u64C]; omega)).trans (by simp [u64C])
          have hhb := HHb.out H[k] (List.getElem_mem hkH)
          generalize H[k] = h at hcx hhb
          have hS := fun w' (hb : Below wr.heap.size wr w') => (⟨hb, hcx w' (below_chain hbr hb), (Bx.out w' (below_chain hZ3 (below_chain hbr hb))).2.1⟩ : Below wr.heap.size wr w' ∧ w'.cell? ⟨bh, oh + k, none⟩ = some (.int .u64 h) ∧ w'.cell? ⟨w.heap.size, 1, none⟩ = some (.int .i64 o2))
          have HS := Lib.hid hS
          have i2 : (k : Int) < N := by omega
          have D0 : Below wr.heap.size wr wr.drew := (Below.refl _ _).drew
          clear hS hch hcx
          have HO4 := Lib.hid (HO3.out.next hbr)
          have HM4 := Lib.hid (HM3.out.next hbr)
          go_wp2_with fail
          go_region_held3 (fun w' => Below wr.heap.size wr w' ∧ w'.cell? ⟨bh, oh + k, none⟩ = some (.int .u64 h) ∧ w'.cell? ⟨w.heap.size, 1, none⟩ = some (.int .i64 o2)) (first | (exact HS.out _ k1) | (exact HS.out _ D0) | fail)
            (first
              | (go_at_call 16; refine (entries_Range _ M h o2 to _ (HO4.out.next D0) Hso.out (by omega) hhb ho2 ht).mono ?_; rintro e w4 ⟨vr, rfl, hown, hb⟩; have k1 : Below wr.heap.size wr w4 := below_chain D0 hb)
              | fail)
          go_wp2_with fail
          have cL := fun w hw => entries_Last vo M h o2 w hw Hso.out hhb ho2
          have cR := fun w hw => ref_Last vm M h o2 w hw hhb ho2
          generalize entO (lastE M h o2) = z at cL cR
          generalize (lastE M h o2).isSome = zb at cL cR
          obtain ⟨z1, z2, z3⟩ := z
          unfold entC at cL cR
          have D1 : Below wr.heap.size wr w4.drew := k1.drew
          have D1b : Below wr.heap.size wr (w4.alloc (.cells #[.int .u64 0, .int .i64 0, .int .i64 0] 25)).drew := (below_chain k1 (below_lit w4 (.cells #[.int .u64 0, .int .i64 0, .int .i64 0] 25))).drew
          have E1 : Below w4.heap.size w4 w4.drew := (Below.refl _ _).drew
          have E1b : Below w4.heap.size w4 (w4.alloc (.cells #[.int .u64 0, .int .i64 0, .int .i64 0] 25)).drew := (below_lit w4 (.cells #[.int .u64 0, .int .i64 0, .int .i64 0] 25)).drew
          have hrow0 : Row (w4.alloc (.cells #[.int .u64 0, .int .i64 0, .int .i64 0] 25)).drew w4.heap.size 25 [.int .u64 0, .int .i64 0, .int .i64 0] := Row.new w4 #[.int .u64 0, .int .i64 0, .int .i64 0] 25
          have Hrow0 := Lib.hid hrow0
          clear hrow0
          apply wp_meetE (α := Nat) (fun g w' => Below wr.heap.size wr w' ∧ Below w4.heap.size w4 w' ∧ Row w' g 25 [.int .u64 (z1 : Nat), .int .i64 z2, .int .i64 z3])
          · go_region_held3 (fun w' => Below wr.heap.size wr w' ∧ w'.cell? ⟨bh, oh + k, none⟩ = some (.int .u64 h) ∧ w'.cell? ⟨w.heap.size, 1, none⟩ = some (.int .i64 o2)) (first | (exact HS.out _ (below_chain k2 (below_lit _ _))) | (exact HS.out _ (((k2.setCell k1.size _).setCell k1.size _).setCell k1.size _)) | (exact HS.out _ k2) | (exact HS.out _ D1) | (exact HS.out _ D1b) | fail)
              (first
                | (go_at_call 17; refine (cL _ (HO4.out.next (by first | exact D1 | exact D1b))).mono ?_; rintro e w5 ⟨rfl, hb⟩; first | (have k2 : Below wr.heap.size wr w5 := below_chain D1 hb; have e12 : Below w4.heap.size w4 w5 := below_chain E1 hb) | (have k2 : Below wr.heap.size wr w5 := below_chain D1b hb; have e12 : Below w4.heap.size w4 w5 := below_chain E1b hb; have hrow := Hrow0.out.next hb; have r0 := hrow.cell 0 (by simp); have r1 := hrow.cell 1 (by simp); have r2 := hrow.cell 2 (by simp); have f0 := hrow.frozen 0 (by simp); have f1 := hrow.frozen 1 (by simp); have f2 := hrow.frozen 2 (by simp); simp only [List.getElem_cons_zero, List.getElem_cons_succ] at r0 r1 r2))
                | fail)
            all_goals first
              | (have hR : Below wr.heap.size wr (w5.alloc (.cells #[.int .u64 z1, .int .i64 z2, .int .i64 z3] 25)) ∧ Below w4.heap.size w4 (w5.alloc (.cells #[.int .u64 z1, .int .i64 z2, .int .i64 z3] 25)) ∧ Row (w5.alloc (.cells #[.int .u64 z1, .int .i64 z2, .int .i64 z3] 25)) w5.heap.size 25 [.int .u64 (z1 : Nat), .int .i64 z2, .int .i64 z3] := ⟨below_chain k2 (below_lit _ _), below_chain e12 (below_lit _ _), Row.new w5 #[.int .u64 (z1 : Nat), .int .i64 z2, .int .i64 z3] 25⟩
                 revert hR
                 generalize w5.heap.size = g
                 intro hR
                 exact ⟨rfl, g, rfl, hR⟩)
              | (have hR : Below wr.heap.size wr (((w5.setCell ⟨w4.heap.size, 0, none⟩ (.int .u64 (z1 : Nat))).setCell ⟨w4.heap.size, 1, none⟩ (.int .i64 z2)).setCell ⟨w4.heap.size, 2, none⟩ (.int .i64 z3)) ∧ Below w4.heap.size w4 (((w5.setCell ⟨w4.heap.size, 0, none⟩ (.int .u64 (z1 : Nat))).setCell ⟨w4.heap.size, 1, none⟩ (.int .i64 z2)).setCell ⟨w4.heap.size, 2, none⟩ (.int .i64 z3)) ∧ Row (((w5.setCell ⟨w4.heap.size, 0, none⟩ (.int .u64 (z1 : Nat))).setCell ⟨w4.heap.size, 1, none⟩ (.int .i64 z2)).setCell ⟨w4.heap.size, 2, none⟩ (.int .i64 z3)) w4.heap.size 25 [.int .u64 (z1 : Nat), .int .i64 z2, .int .i64 z3] :=
                   ⟨((k2.setCell k1.size _).setCell k1.size _).setCell k1.size _, ((e12.setCell (Nat.le_refl _) _).setCell (Nat.le_refl _) _).setCell (Nat.le_refl _) _, ((hrow.set 0 _).set 1 _).set 2 _⟩
                 clear hrow r0 r1 r2 f0 f1 f2
                 revert hR
                 generalize hgg : w4.heap.size = g
                 intro hR
                 exact ⟨rfl, g, rfl, hR⟩)
          intro g1 w6 ⟨k6, e6, row6⟩
          clear D1 D1b E1 E1b
          go_wp2_with fail
          have D1 : Below wr.heap.size wr w6.drew := k6.drew
          have D1b : Below wr.heap.size wr (w6.alloc (.cells #[.int .u64 0, .int .i64 0, .int .i64 0] 25)).drew := (below_chain k6 (below_lit w6 (.cells #[.int .u64 0, .int .i64 0, .int .i64 0] 25))).drew
          have E1 : Below w6.heap.size w6 w6.drew := (Below.refl _ _).drew
          have E1b : Below w6.heap.size w6 (w6.alloc (.cells #[.int .u64 0, .int .i64 0, .int .i64 0] 25)).drew := (below_lit w6 (.cells #[.int .u64 0, .int .i64 0, .int .i64 0] 25)).drew
          have hrow0 : Row (w6.alloc (.cells #[.int .u64 0, .int .i64 0, .int .i64 0] 25)).drew w6.heap.size 25 [.int .u64 0, .int .i64 0, .int .i64 0] := Row.new w6 #[.int .u64 0, .int .i64 0, .int .i64 0] 25
          have Hrow0 := Lib.hid hrow0
          clear hrow0
          apply wp_meetE (α := Nat) (fun g w' => Below wr.heap.size wr w' ∧ Below w6.heap.size w6 w' ∧ Row w' g 25 [.int .u64 (z1 : Nat), .int .i64 z2, .int .i64 z3])
          · go_region_held3 (fun w' => Below wr.heap.size wr w' ∧ w'.cell? ⟨bh, oh + k, none⟩ = some (.int .u64 h) ∧ w'.cell? ⟨w.heap.size, 1, none⟩ = some (.int .i64 o2)) (first | (exact HS.out _ (below_chain k3 (below_lit _ _))) | (exact HS.out _ (((k3.setCell k6.size _).setCell k6.size _).setCell k6.size _)) | (exact HS.out _ k3) | (exact HS.out _ D1) | (exact HS.out _ D1b) | fail)
              (first
                | (go_at_call 18; refine (cR _ (HM4.out.next (by first | exact D1 | exact D1b))).mono ?_; rintro e w7 ⟨rfl, hb⟩; first | (have k3 : Below wr.heap.size wr w7 := below_chain D1 hb; have e12 : Below w6.heap.size w6 w7 := below_chain E1 hb) | (have k3 : Below wr.heap.size wr w7 := below_chain D1b hb; have e12 : Below w6.heap.size w6 w7 := below_chain E1b hb; have hrow := Hrow0.out.next hb; have r0 := hrow.cell 0 (by simp); have r1 := hrow.cell 1 (by simp); have r2 := hrow.cell 2 (by simp); have f0 := hrow.frozen 0 (by simp); have f1 := hrow.frozen 1 (by simp); have f2 := hrow.frozen 2 (by simp); simp only [List.getElem_cons_zero, List.getElem_cons_succ] at r0 r1 r2))
                | fail)
            all_goals first
              | (have hR : Below wr.heap.size wr (w7.alloc (.cells #[.int .u64 z1, .int .i64 z2, .int .i64 z3] 25)) ∧ Below w6.heap.size w6 (w7.alloc (.cells #[.int .u64 z1, .int .i64 z2, .int .i64 z3] 25)) ∧ Row (w7.alloc (.cells #[.int .u64 z1, .int .i64 z2, .int .i64 z3] 25)) w7.heap.size 25 [.int .u64 (z1 : Nat), .int .i64 z2, .int .i64 z3] := ⟨below_chain k3 (below_lit _ _), below_chain e12 (below_lit _ _), Row.new w7 #[.int .u64 (z1 : Nat), .int .i64 z2, .int .i64 z3] 25⟩
                 revert hR
                 generalize w7.heap.size = g
                 intro hR
                 exact ⟨rfl, g, rfl, hR⟩)
              | (have hR : Below wr.heap.size wr (((w7.setCell ⟨w6.heap.size, 0, none⟩ (.int .u64 (z1 : Nat))).setCell ⟨w6.heap.size, 1, none⟩ (.int .i64 z2)).setCell ⟨w6.heap.size, 2, none⟩ (.int .i64 z3)) ∧ Below w6.heap.size w6 (((w7.setCell ⟨w6.heap.size, 0, none⟩ (.int .u64 (z1 : Nat))).setCell ⟨w6.heap.size, 1, none⟩ (.int .i64 z2)).setCell ⟨w6.heap.size, 2, none⟩ (.int .i64 z3)) ∧ Row (((w7.setCell ⟨w6.heap.size, 0, none⟩ (.int .u64 (z1 : Nat))).setCell ⟨w6.heap.size, 1, none⟩ (.int .i64 z2)).setCell ⟨w6.heap.size, 2, none⟩ (.int .i64 z3)) w6.heap.size 25 [.int .u64 (z1 : Nat), .int .i64 z2, .int .i64 z3] :=
                   ⟨((k3.setCell k6.size _).setCell k6.size _).setCell k6.size _, ((e12.setCell (Nat.le_refl _) _).setCell (Nat.le_refl _) _).setCell (Nat.le_refl _) _, ((hrow.set 0 _).set 1 _).set 2 _⟩
                 clear hrow r0 r1 r2 f0 f1 f2
                 revert hR
                 generalize hgg : w6.heap.size = g
                 intro hR
                 exact ⟨rfl, g, rfl, hR⟩)
          intro g2 w8 ⟨k8, e8, row8⟩
          clear D1 D1b E1 E1b
          go_wp2_with fail
          have e68 := e8
          have HS8 := Lib.hid (show ∀ w', Below w8.heap.size w8 w' → Below w8.heap.size w8 w' ∧ w'.cell? ⟨bh, oh + k, none⟩ = some (.int .u64 h) ∧ w'.cell? ⟨w.heap.size, 1, none⟩ = some (.int .i64 o2) ∧ w'.cell? ⟨g1, 0, none⟩ = some (.int .u64 z1) ∧ w'.cell? ⟨g1, 1, none⟩ = some (.int .i64 z2) ∧ w'.cell? ⟨g1, 2, none⟩ = some (.int .i64 z3) ∧
              w'.cell? ⟨g2, 0, none⟩ = some (.int .u64 z1) ∧ w'.cell? ⟨g2, 1, none⟩ = some (.int .i64 z2) ∧ w'.cell? ⟨g2, 2, none⟩ = some (.int .i64 z3) from fun w' hb => by
            obtain ⟨-, f1, f2⟩ := HS.out w' (below_chain k8 hb)
            have r1 := row6.next (below_chain e8 hb)
            have r2 := row8.next hb
            exact ⟨hb, f1, f2, r1.cell 0 (by simp), r1.cell 1 (by simp), r1.cell 2 (by simp), r2.cell 0 (by simp), r2.cell 1 (by simp), r2.cell 2 (by simp)⟩)
          have HO8 := Lib.hid (HO4.out.next k8)
          have HM8 := Lib.hid (HM4.out.next k8)
          have hR8 : Ents w8 vr (rangeE M h o2 to) := Ents.next ⟨Reads.of_own hown, fun x hx => HMok.out x (List.mem_filter.1 hx).1⟩ (below_chain e6 e8)
          have HR8 := Lib.hid hR8
          have D8 : Below w8.heap.size w8 w8.drew := (Below.refl _ _).drew
          have cS := fun w hw => entries_Search vo M h o2 w hw Hso.out hhb ho2
          have cT := fun w hw => ref_Search vm M h o2 w hw hhb ho2
          generalize searchE M h o2 = sv at cS cT
          clear hR8 cL cR row6 row8
          apply wp_meetE (α := Value) (fun x w' => Below w8.heap.size w8 w')
          · go_region_held3 (fun w' => Below w8.heap.size w8 w' ∧ w'.cell? ⟨bh, oh + k, none⟩ = some (.int .u64 h) ∧ w'.cell? ⟨w.heap.size, 1, none⟩ = some (.int .i64 o2) ∧ w'.cell? ⟨g1, 0, none⟩ = some (.int .u64 z1) ∧ w'.cell? ⟨g1, 1, none⟩ = some (.int .i64 z2) ∧ w'.cell? ⟨g1, 2, none⟩ = some (.int .i64 z3) ∧
                w'.cell? ⟨g2, 0, none⟩ = some (.int .u64 z1) ∧ w'.cell? ⟨g2, 1, none⟩ = some (.int .i64 z2) ∧ w'.cell? ⟨g2, 2, none⟩ = some (.int .i64 z3)) (first | (exact HS8.out _ e4) | (exact HS8.out _ e3) | (exact HS8.out _ e2) | (exact HS8.out _ e1) | (exact HS8.out _ D8) | fail)
              (first
                | (go_at_call 21; refine (ex_Same _ vr vq (rangeE M h o2 to) (rangeE M h o2 to) true (HR8.out.next e3) hq (by simp)).mono ?_; rintro e w12 ⟨rfl, hb⟩; have e4 : Below w8.heap.size w8 w12 := below_chain e3 hb)
                | (go_at_call 22; refine (ref_Range _ M h o2 to _ (HM8.out.next (by first | exact e1 | exact e2)) (by omega) hhb ho2 ht).mono ?_; rintro e w11 ⟨vq, rfl, hownq, hb⟩; have e3 : Below w8.heap.size w8 w11 := below_chain (by first | exact e1 | exact e2) hb; have hq : Ents w11 vq (rangeE M h o2 to) := ⟨Reads.of_own hownq, fun x hx => HMok.out x (List.mem_filter.1 hx).1⟩)
                | (go_at_call 19; refine (cS _ (HO8.out.next (by first | exact D8 | exact e2))).mono ?_; rintro e w9 ⟨rfl, hb⟩; have e1 : Below w8.heap.size w8 w9 := below_chain (by first | exact D8 | exact e2) hb)
                | (go_at_call 20; refine (cT _ (HM8.out.next (by first | exact D8 | exact e1))).mono ?_; rintro e w10 ⟨rfl, hb⟩; have e2 : Below w8.heap.size w8 w10 := below_chain (by first | exact D8 | exact e1) hb)
                | fail)
            all_goals exact ⟨rfl, vq, rfl, e4⟩
          · intro vq w9 e9
            have hown9 := own_next hown (below_chain (below_chain e6 e8) e9)
            have hb9 : Below wr.heap.size wr w9 := below_chain k8 e9
            generalize (rangeE M h o2 to).length = R at hown9 HR8
            generalize entsC (rangeE M h o2 to) = xs0 at hown9
            have hx0 := hown9.1
            rcases id hown9.2 with ⟨rfl, rfl⟩ | ⟨g, cap, cur, rfl, hbg, hg, hnc, hcm, -, -⟩
            · go_wp2_with fail
              go_loopw [16] (fun j wi => j = .int .i64 0 ∧ Below wr.heap.size wr wi) (fun j _ => 0)
              case atStart => exact ⟨rfl, hb9⟩
              case round =>
                obtain ⟨rfl, hbi⟩ := hrel
                go_wp2
                go_roundw
                case rel => exact ⟨k + 1, by omega, by go_num, below_chain hbr hbi⟩
                case measure => simp [intOf]; omega
            · have hrow9 : Row w9 g 25 xs0 := Row.of_own hown9
              have hge : wr.heap.size ≤ g := hbg
              unfold maxLen at hcm
              clear hown9
              go_wp2_with fail
              go_loopw [16] (fun j wi => ∃ q : Nat, q ≤ R ∧ j = .int .i64 (q : Int) ∧ (∃ xs : List Value, xs.length = R * 3 ∧ Row wi g 25 xs) ∧ Below wr.heap.size wr wi) (fun j _ => R - (intOf j).toNat)
              case atStart => exact ⟨0, by omega, rfl, ⟨xs0, hx0, hrow9⟩, hb9⟩
              case round =>
                obtain ⟨q, hq, rfl, ⟨xs, hxl, hrow⟩, hbi⟩ := hrel
                by_cases hqR : q < R
                · have r0 := hrow.cell (q * 3) (by omega)
                  have r1 := hrow.cell (q * 3 + 1) (by omega)
                  have r2 := hrow.cell (q * 3 + 2) (by omega)
                  have f0 := hrow.frozen (q * 3) (by omega)
                  have f1 := hrow.frozen (q * 3 + 1) (by omega)
                  have f2 := hrow.frozen (q * 3 + 2) (by omega)
                  generalize xs[q * 3]'(by omega) = c0 at r0
                  generalize xs[q * 3 + 1]'(by omega) = c1 at r1
                  generalize xs[q * 3 + 2]'(by omega) = c2 at r2
                  have Hrow := Lib.hid hrow
                  have iq : (q : Int) < R := by omega
                  clear hrow
                  go_wp2
                  go_roundw
                  case rel => exact ⟨q + 1, by omega, by go_num, ⟨_, by simp [hxl], ((Hrow.out.set (q * 3) _).set (q * 3 + 1) _).set (q * 3 + 2) _⟩, ((hbi.setCell hge _).setCell hge _).setCell hge _⟩
                  case measure => simp [intOf]; omega
                · have iq : ¬ (q : Int) < R := by omega
                  have Hrow := Lib.hid hrow
                  clear hrow
                  go_wp2
                  go_roundw
                  case rel => exact ⟨k + 1, by omega, by go_num, below_chain hbr hbi⟩
                  case measure => simp [intOf]; omega
        · have i2 : ¬ (k : Int) < N := by omega
          have hOw := HO3.out.next hbr
          have hMw := HM3.out.next hbr
          have hBw := below_chain hB3 hbr
          have hZw := below_chain hZ3 hbr
          have hLw := Hl0.out.next hZw
          go_wp2_with fail
          refine (ex_Same _ vo vm M M true hOw hMw (by simp)).mono ?_
          rintro e w4 ⟨rfl, hb4⟩
          go_wp2_with fail
          refine (ex_Sorted _ vm M true (hMw.next hb4) Hso.out).mono ?_
          rintro e w5 ⟨rfl, hb5⟩
          have hb45 := below_chain hb4 hb5
          go_wp2_with fail
          refine (entries_Sorted _ l _ (hLw.next hb45)).mono ?_
          rintro e w6 ⟨rfl, hb6⟩
          have hb46 := below_chain hb45 hb6
          go_wp2_with fail
          refine (ref_Sorted _ l _ (hLw.next hb46)).mono ?_
          rintro e w7 ⟨rfl, hb7⟩
          have hb47 := below_chain hb46 hb7
          go_wp2_with fail
          refine (law_entered _).mono ?_
          rintro e w8 ⟨rfl, hb8⟩
          go_wp2
          go_ret
          exact ⟨rfl, below_chain hBw (below_chain hb47 hb8)⟩
  · have i1 : (100 : Int) < l.length := by omega
    go_enter Try.func3, Try.ntmps3
    go_wp2_with fail
    refine (law_entered _).mono ?_
    rintro e w1 ⟨rfl, hb1⟩
    go_wp2
    go_ret
    exact ⟨rfl, below_chain hz hb1⟩
end Go.Proofs.Ytikodobglhjoiaa
