/-
  Rows.PagesMaySaid: whether any hashes may be there, by any file's bytes, is the document's.
-/
import Derived.Test.YtpoeginnoocenaaPage7
import Derived.Test.YtpoeginnoocenaaPage3
import Derived.Test.YtpoeginnoocenaaOpenB
namespace Go.Proofs.Ytpoeginnoocenaa
open Go.RowKit
set_option linter.unusedVariables false

theorem FilterV.none (w : World) : FilterV w (.agg #[.int .i64 0, .int .i64 0, .map none]) [] := .inl ⟨rfl, by decide +kernel⟩
theorem FilterV.shape {w : World} {v : Value} {L : List UInt8} (h : FilterV w v L) : ∃ (a b : Int) (m : Option Nat), v = .agg #[.int .i64 a, .int .i64 b, .map m] := by
  rcases h with ⟨rfl, -⟩ | ⟨B, n, D, rfl, -⟩ <;> exact ⟨_, _, _, rfl⟩
theorem may_none (w : World) : Calls Try.prog 25 #[.agg #[.int .i64 0, .int .i64 0, .map none], .int .u64 5] w fun e w' => e = .returned (.bool true) ∧ Below w.heap.size w w' := by
  have := pages_May _ [] 5 w (FilterV.none w) (by decide)
  rwa [show mayF [] 5 = true by decide +kernel] at this
set_option maxRecDepth 100000 in
set_option maxHeartbeats 4000000 in
theorem PagesMay_walk (s : ByteArray) (v : Value) (l : List Nat) (w : World) (hs : s.size ≤ maxLen) (hv : U64s w v l) :
    Calls Try.prog 9 #[.string s, v] w fun e w' => e = .returned (.bool true) ∧ Below w.heap.size w w' := by
  obtain ⟨A, c, rfl, hc1, hc2, -, -⟩ := id hv.1
  clear hs hc2
  by_cases hz : 3000 < s.size
  · have i1 : (3000 : Int) < s.size := by omega
    clear hv
    go_enter Try.func9, Try.ntmps9
    go_wp2_with fail
    refine (law_paged _).mono ?_
    rintro e w1 ⟨rfl, h1⟩
    go_wp2
    go_ret
    exact ⟨rfl, h1⟩
  · have i1 : ¬ (3000 : Int) < s.size := by omega
    by_cases hl : 30 < l.length
    · have i2 : (30 : Int) < l.length := by omega
      clear hv
      go_enter Try.func9, Try.ntmps9
      go_wp2_with fail
      refine (law_paged _).mono ?_
      rintro e w1 ⟨rfl, h1⟩
      go_wp2
      go_ret
      exact ⟨rfl, h1⟩
    · have i2 : ¬ (30 : Int) < l.length := by omega
      have cL := fun w => pages_Load s w (by omega)
      have cR := fun h w (hh : h < 18446744073709551616) => refP_May s h w (by omega) hh
      have cM := fun v w h (hf : FilterV w v (lb s)) (hh : h < 18446744073709551616) => pages_May v (lb s) h w hf hh
      go_enter Try.func9, Try.ntmps9
      go_wp2_with fail
      refine (cL _).mono ?_
      rintro e w1 ⟨F, rfl, hf, hb1⟩
      clear cL
      have hv1 := hv.next hb1
      clear hv
      obtain ⟨ga, gb, gc, rfl⟩ := hf.shape
      have hf0 := Lib.hid hf
      clear hf
      go_wp2_with fail
      have hrow := Row.new w1 #[.int .i64 ga, .int .i64 gb, .map gc] 42
      have hbl := (Below.refl w1.heap.size w1).alloc (Nat.le_refl _) (.cells #[.int .i64 ga, .int .i64 gb, .map gc] 42)
      obtain ⟨R, hR⟩ : ∃ R, R = w1.heap.size := ⟨_, rfl⟩
      rw [← hR] at hrow
      try rw [← hR]
      have HR := Lib.hid hR
      generalize w1.alloc (.cells #[.int .i64 ga, .int .i64 gb, .map gc] 42) = w2 at hrow hbl ⊢
      clear hR
      have hf2 := Lib.hid (hf0.out.next hbl)
      have hv2 := Lib.hid (hv1.next hbl)
      have hb2 := below_chain hb1 hbl
      clear hb1 hbl hv1 hf0
      go_loopw [6] (fun i wr => ∃ k : Nat, k ≤ l.length ∧ i = .int .i64 k ∧ Below w2.heap.size w2 wr) (fun i _ => l.length - (intOf i).toNat)
      case atStart => exact ⟨0, by omega, rfl, Below.refl _ _⟩
      case round =>
        obtain ⟨k, hk, rfl, hbr⟩ := hrel
        have Hrow := Lib.hid hrow
        clear hrow
        by_cases hlt : k < l.length
        · obtain ⟨b, off, rfl, -, -, -, hcell⟩ := hv2.out.1.at_ (by omega)
          have x0 : ∀ x : Later wr, x.it.cell? ⟨b, off + k, none⟩ = some (.int .u64 (l[k] : Nat)) := fun x => (hcell x.it (below_more hbr x.ok (Nat.le_refl _)) k (by simp; omega)).trans (by simp [u64C])
          have hh := hv2.out.2 l[k] (List.getElem_mem hlt)
          have i3 : (k : Int) < l.length := by omega
          generalize l[k] = h at x0 hh
          have rr : ∀ x : Later wr, Row x.it R 42 [(.int .i64 ga), (.int .i64 gb), (.map gc)] := fun x => Hrow.out.next (below_more hbr x.ok (Nat.le_refl _))
          have y0 : ∀ x : Later wr, x.it.cell? ⟨R, 0, none⟩ = some (.int .i64 ga) := fun x => (row_aggP (rr x)).1
          have y1 : ∀ x : Later wr, x.it.cell? ⟨R, 1, none⟩ = some (.int .i64 gb) := fun x => (row_aggP (rr x)).2.1
          have y2 : ∀ x : Later wr, x.it.cell? ⟨R, 2, none⟩ = some (.map gc) := fun x => (row_aggP (rr x)).2.2.1
          have Hff : ∀ x : Later wr, FilterV x.it (.agg #[(.int .i64 ga), (.int .i64 gb), (.map gc)]) (lb s) := fun x => hf2.out.next (below_more hbr x.ok (Nat.le_refl _))
          have HF := Lib.hid Hff
          have CM := Lib.hid cM
          have CR := Lib.hid cR
          have Hh := Lib.hid hh
          clear rr Hff hcell cM cR hh hb2
          go_wp2_with fail
          refine wp_region_below (by kernel_rfl) (by kernel_rfl) ?_
          repeat (first | go_big_quiet_skip | (go_big_quiet_want; go_big_quiet_op; go_big_quiet_on) | (go_big_quiet_want; go_big_quiet_op; apply Exists.intro; refine ⟨fun x => ?_, ?_⟩; (first | (go_at_call 25; exact calls_below x (CM.out _ _ _ (HF.out x) Hh.out)) | (go_at_call 26; exact calls_below x (CR.out _ _ Hh.out))); go_big_quiet_on))
          refine wpQuiet_nil ?_
          intro _ hx
          obtain ⟨⟨w3, hb3⟩, rfl⟩ := hx
          go_wp2
          go_roundw
          case rel => exact ⟨k + 1, by omega, by go_num, below_more hbr hb3 (Nat.le_refl _)⟩
          case measure => simp [intOf]; omega
        · obtain rfl : k = l.length := by omega
          have H2 := Lib.hid hb2
          clear hb2 cM cR
          go_wp2_with fail
          refine (may_none _).mono ?_
          rintro e w4 ⟨rfl, hb4⟩
          go_wp2_with fail
          refine (law_paged _).mono ?_
          rintro e w5 ⟨rfl, hb5⟩
          go_wp2
          go_ret
          exact ⟨rfl, below_more H2.out (below_chain hbr (below_chain ((Below.refl _ _).alloc (Nat.le_refl _) _) (below_chain hb4 hb5))) (Nat.le_refl _)⟩
end Go.Proofs.Ytpoeginnoocenaa
