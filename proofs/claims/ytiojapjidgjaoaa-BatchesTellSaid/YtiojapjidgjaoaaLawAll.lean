/-
  LISTS OF EVENTS: those of some bits.
-/
import Derived.Test.YtiojapjidgjaoaaEvAll
import Derived.Test.YtiojapjidgjaoaaAppend
namespace Go.Proofs.Ytiojapjidgjaoaa
open Go.RowKit
set_option linter.unusedVariables false

theorem infoEv : (Try.prog.info? 28).map (fun i => (i.zero, i.size, i.bytes)) = some (some (.agg #[.string ⟨#[]⟩, .string ⟨#[]⟩, .float .f64 0]), 3, 40) := by kernel_rfl
def Raws (w : World) (v : Value) (l : List Ev) : Prop := Reads w v 3 l.length (l.flatMap rawL) ∧ ∀ e ∈ l, okV e
theorem rawL_len (e : Ev) : (rawL e).length = 3 := rfl
theorem Raws.next {w w' : World} {v : Value} {l : List Ev} (h : Raws w v l) (hb : Below w.heap.size w w') : Raws w' v l := ⟨h.1.next hb, h.2⟩
theorem Raws.later {w : World} {A : Option Addr} {n c : Nat} {l : List Ev} (h : Raws w (.slice A n c) l) (h0 : 0 < l.length) : ∃ b off, A = some ⟨b, off, none⟩ ∧ b < w.heap.size ∧
    ∀ (i : Nat) (e : Ev), l[i]? = some e → ∀ w' : World, Below w.heap.size w w' → w'.cell? ⟨b, off + i * 3, none⟩ = some (.string e.1) ∧ w'.cell? ⟨b, off + i * 3 + 1, none⟩ = some (.string e.2.1) ∧ w'.cell? ⟨b, off + i * 3 + 2, none⟩ = some (.int .u64 (e.2.2 : Nat)) := by
  obtain ⟨b, off, hA, hlt, hc⟩ := (Reads.each rawL_len h.1).2.2.2 h0
  refine ⟨b, off, hA, hlt, fun i e hi w' hb => ?_⟩
  have h := hc i e hi w' hb
  exact ⟨by simpa [rawL] using h 0 (by omega), by simpa [rawL, Nat.add_assoc] using h 1 (by omega), by simpa [rawL, Nat.add_assoc] using h 2 (by omega)⟩
theorem evL_one (l : List Ev) : ∀ u ∈ l.flatMap evL, u.oneCell' = true := by
  intro u hu
  obtain ⟨e, _, hu⟩ := List.mem_flatMap.1 hu
  simp only [evL, List.mem_cons, List.not_mem_nil, or_false] at hu
  rcases hu with rfl | rfl | rfl <;> rfl
theorem ev_lit (w : World) (e : Ev) : Reads (w.alloc (.cells (evC e) 28)) (.slice (some ⟨w.heap.size, 0, none⟩) 1 1) 3 1 ([e].flatMap evL) :=
  Reads.of_row (Row.new w (evC e) 28) rfl (Nat.le_refl _) (by unfold maxLen; omega)
theorem own_baseV {w : World} {base base' n size : Nat} {e : TypeId} {v : Value} {xs : List Value} (h : w.ownsRow base e size v n xs) (hb : base' ≤ base) : w.ownsRow base' e size v n xs := by
  refine ⟨h.1, ?_⟩
  rcases h.2 with hn | ⟨g, cap, cur, hv, hbs, rest⟩
  · exact .inl hn
  · exact .inr ⟨g, cap, cur, hv, Nat.le_trans hb hbs, rest⟩

set_option maxHeartbeats 1000000 in
theorem law_AllV (v : Value) (l : List Ev) (w : World) (hl : Raws w v l) (hn : l.length ≤ 1000000) :
    Calls Try.prog 24 #[v] w fun e w' => ∃ v', e = .returned v' ∧ w'.ownsRow w.heap.size 28 3 v' l.length (l.flatMap evL) ∧ Below w.heap.size w w' := by
  obtain ⟨⟨A, c, rfl, -, -, -, -⟩, -⟩ := id hl
  obtain ⟨-, hc1, hc2, -⟩ := Reads.each rawL_len hl.1
  unfold maxLen at hc2
  obtain ⟨i0, hi0, hz0, hz1, hz2⟩ := info_parts infoEv
  have hL := fun h0 => hl.later h0
  have hok := hl.2
  obtain ⟨n, hN⟩ : ∃ n, n = l.length := ⟨_, rfl⟩
  rw [← hN] at hc1 hn ⊢
  have Hn := Lib.hid hN
  have HL := Lib.hid hL
  have Hok := Lib.hid hok
  clear hN hL hok hl
  go_enter Try.func24, Try.ntmps24
  go_wp2_with fail
  go_loopw [3, 4] (fun m i wr => ∃ k : Nat, k ≤ n ∧ i = .int .i64 (k : Int) ∧ wr.ownsRow w.heap.size 28 3 m k ((l.take k).flatMap evL) ∧ Below w.heap.size w wr) (fun _ i _ => n - (intOf i).toNat)
  case atStart => exact ⟨0, by omega, rfl, World.ownsRow_nil _ _ _ _, Below.refl _ _⟩
  case round =>
    obtain ⟨k, hk, rfl, hown, hbr⟩ := hrel
    by_cases hlt : k < n
    · obtain ⟨e, he⟩ : ∃ e, l[k]? = some e := ⟨_, List.getElem?_eq_getElem (by have := Hn.out; omega)⟩
      obtain ⟨b, off, rfl, -, hc⟩ := HL.out (by have := Hn.out; omega)
      obtain ⟨c0, c1, c2⟩ := hc k e he wr hbr
      have oe := Hok.out e (List.mem_of_getElem? he)
      have ea := fun w => raw_Event e w oe
      have hs : (l.take (k + 1)).flatMap evL = (l.take k).flatMap evL ++ [e].flatMap evL := by rw [List.take_add_one, he, List.flatMap_append]; rfl
      have hlit := fun w => ev_lit w e
      have i1 : (k : Int) < n := by omega
      have Hs := Lib.hid hs
      have Hlit := Lib.hid hlit
      have Hown := Lib.hid hown
      obtain ⟨e1, e2, e3⟩ := e
      unfold rawC evC at ea
      simp only [] at c0 c1 c2 ea
      have hone := evL_one [(e1, e2, e3)]
      clear he hc hs hlit oe hown
      go_wp2_with fail
      refine (ea _).mono ?_
      rintro y w2 ⟨rfl, hb2⟩
      have z2 := lit_below w2 (.cells #[.string e1, .string e2, .float .f64 e3] 28)
      have hb4 := below_more hbr (below_chain hb2 z2) (Nat.le_refl _)
      have hown3 := own_next Hown.out (below_chain hb2 z2)
      have hr3 := Hlit.out w2
      unfold evC at hr3
      simp only [] at hr3
      go_wp2_with (first
        | (at_builtin; refine wpList_append_reads _ rfl _ _ 38 rfl w.heap.size 28 i0 _ 3 40 Try.underlying38 hi0 hz0 hz1 hz2 rfl (by decide) _ k _ rfl hown3 _ 1 ([(e1, e2, e3)].flatMap evL) rfl hr3 hone (by unfold maxLen; omega) (by omega) hb4.size ?_; intro v3 w5 hown5 hg5))
      have hb5 := hb4.grown hg5 hb4.size (own_block_ge hown3)
      go_wp2
      go_roundw
      case rel => exact ⟨k + 1, by omega, by go_num, by rw [Hs.out]; exact hown5, hb5⟩
      case measure => simp [intOf]; omega
    · have i1 : ¬ (k : Int) < n := by omega
      have hk' : k = n := by omega
      rw [List.take_of_length_le (by have := Hn.out; omega), hk'] at hown
      have Hown := Lib.hid hown
      clear hown
      go_wp2
      go_ret
      exact ⟨_, rfl, Hown.out, hbr⟩
end Go.Proofs.Ytiojapjidgjaoaa
