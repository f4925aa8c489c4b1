/-
  Rows.EventsBackSaid: the bytes of an event that may be are read as it, whatever stands behind them; of what is cut off nothing is read.
-/
import Derived.Test.YtiojapjidgjaoaaEvRead
import Derived.Test.YtiojapjidgjaoaaHappened
namespace Go.Proofs.Ytiojapjidgjaoaa
open Go.RowKit
set_option linter.unusedVariables false

set_option maxHeartbeats 2000000 in
theorem EventsBack_walk (v0 : Value) (a : Ev) (z : ByteArray) (cut : Int) (w : World) (ha : RawIs v0 a) (hz : z.size ≤ maxLen) (hc : 0 ≤ cut ∧ cut ≤ 65535) :
    Calls Try.prog 7 #[v0, .string z, .int .u16 cut] w fun e w' => e = .returned (.bool true) ∧ Below w.heap.size w w' := by
  obtain ⟨rfl, oa⟩ := ha
  obtain ⟨c, rfl⟩ := Int.eq_ofNat_of_zero_le hc.1
  have hc' : c ≤ 65535 := by have := hc.2; omega
  clear hc
  unfold maxLen at hz
  obtain ⟨Z, rfl⟩ : ∃ Z, z = bs Z := ⟨lb z, (bs_lb z).symm⟩
  rw [size_bs] at hz
  have ga := fun w => raw_Great a w oa
  have ea := fun w => raw_Event a w oa
  have ka := fun w => events_Check a w oa
  have ya := fun w => events_Bytes a w oa
  have sx := fun w => events_Same a a w oa oa
  rw [decide_eq_true (show a = a from rfl)] at sx
  have z0 := lit_below w (.cells (rawC a) 24)
  have hcut := cut_read (e := a)
  have hput := put_read (e := a)
  have bx := fun w => ev_box w a 28
  have bl := bytesV_length_le a
  have hbno : checkV a ≠ 0 → bytesV a = [] := fun h => by unfold bytesV; rw [if_neg h]
  have hby : checkV a = 0 → 0 < (bytesV a).length := fun h => by
    obtain ⟨p1, p2, p3⟩ := check_parts h
    unfold bytesV; rw [if_pos h, rawV_length (by omega) (by omega)]; omega
  have h64 := oa.2.2
  obtain ⟨t, d, n⟩ := a
  unfold rawC at ga ea z0 ⊢
  unfold evC at ea ka ya sx bx
  simp only [] at ga ea ka ya sx bx h64 z0 ⊢
  generalize greatV (t, d, n) = g at ga
  have R0 : Row (w.alloc (.cells #[.string t, .string d, .int .u64 (n : Nat)] 24)) w.heap.size 24 [.string t, .string d, .int .u64 (n : Nat)] := Row.new w #[.string t, .string d, .int .u64 (n : Nat)] _
  rcases g with _ | _
  · by_cases hl : Z.length ≤ 500
    · have hl' : ¬ (500 : Int) < Z.length := by omega
      by_cases hk : checkV (t, d, n) = 0
      · have hput' := hput hk h64 Z
        have hcut' := hcut hk
        have hpos := hby hk
        rw [hk] at ka
        generalize hT : bytesV (t, d, n) = T at hput' hcut' hpos ya bl
        obtain ⟨r1, r2, r3⟩ := hput'
        have q1 := fun w => events_Read (bs (T ++ Z)) w (by rw [size_bs, List.length_append]; omega)
        simp only [lb_bs, r1, r2, r3] at q1
        obtain ⟨j, hj⟩ : ∃ k, k = c % T.length := ⟨_, rfl⟩
        have hj1 : j < T.length := by rw [hj]; exact Nat.mod_lt _ hpos
        have hj2 : (c : Int) % (T.length : Int) = (j : Int) := by rw [hj]; rfl
        obtain ⟨r4, r5⟩ := none_read (hcut' j hj1)
        have q2 := fun w => events_Read (bs (T.take j)) w (by rw [size_bs, List.length_take]; omega)
        simp only [lb_bs, hcut' j hj1, r4, r5] at q2
        have hx2 : (bs T).extract 0 j = bs (T.take j) := by rw [bs_extract, lb_bs, List.drop_zero, Nat.sub_zero]
        have hx3 : bs T ++ bs Z = bs (T ++ Z) := bs_append T Z
        have e1 : (Z == Z) = true := by simp
        have e0 : ¬ (T.length : Int) = 0 := by omega
        have e0' : ((T.length : Int) == 0) = false := by rw [beq_eq_false_iff_ne]; exact e0
        clear hput hcut hbno hby hk r1 r2 r3 r4 r5 hcut' hj hT hpos
        unfold evC at q1 q2
        unfold ev0 at q2
        have he : ByteArray.empty = (⟨#[]⟩ : ByteArray) := rfl
        simp only [he] at q2
        try simp only [] at q1
        go_enter Try.func7, Try.ntmps7
        go_wp2_with fail
        refine (ga _).mono ?_
        rintro e w1 ⟨rfl, hb1⟩
        have R1 := R0.next hb1
        have p0 := R1.cell 0 (by simp)
        have p1 := R1.cell 1 (by simp)
        have p2 := R1.cell 2 (by simp)
        simp only [List.getElem_cons_zero, List.getElem_cons_succ] at p0 p1 p2
        clear R1 R0 ga
        go_wp2_with fail
        refine (ea _).mono ?_
        rintro e w2 ⟨rfl, hb2⟩
        have b2 := bx w2
        have z2 := lit_below w2 (.cells #[.string t, .string d, .float .f64 n] 28)
        clear ea p0 p1 p2
        go_wp2_with fail
        refine (ya _).mono ?_
        rintro e w3 ⟨rfl, hb3⟩
        obtain ⟨x0, x1, x2⟩ := b2 w3 hb3
        clear ya
        go_wp2_with fail
        refine (ka _).mono ?_
        rintro e w4 ⟨rfl, hb4⟩
        clear ka x0 x1 x2
        have hb24 := below_chain hb3 hb4
        have hB := below_chain z0 (below_chain hb1 (below_chain hb2 z2))
        clear z0 hb1 hb2 z2 hb3 hb4
        go_wp2_with fail
        try rw [hx3]
        refine (q1 _).mono ?_
        rintro e w5 ⟨rfl, hb5⟩
        have b5 := bx w5
        have z5 := lit_below w5 (.cells #[.string t, .string d, .float .f64 n] 28)
        clear bx
        go_wp2_with fail
        try rw [hx2]
        refine (q2 _).mono ?_
        rintro e w6 ⟨rfl, hb6⟩
        have b6 := ev_box w6 (⟨#[]⟩, ⟨#[]⟩, 0) 28
        have z6 := lit_below w6 (.cells #[.string ⟨#[]⟩, .string ⟨#[]⟩, .float .f64 0] 28)
        have h26 := below_chain hb24 (below_chain hb5 (below_chain z5 (below_chain hb6 z6)))
        have h56 := below_chain hb6 z6
        obtain ⟨x0, x1, x2⟩ := b2 _ h26
        obtain ⟨y0, y1, y2⟩ := b5 _ h56
        clear hb24 hb5 z5 hb6 z6 q1 q2 hj1 hj2
        go_wp2_with fail
        refine (sx _).mono ?_
        rintro e w7 ⟨rfl, hb7⟩
        obtain ⟨u0, u1, u2⟩ := b6 _ hb7
        try simp only [] at u0 u1 u2
        go_wp2_with fail
        refine (ex_SameV (⟨#[]⟩, ⟨#[]⟩, 0) (⟨#[]⟩, ⟨#[]⟩, 0) true _ ⟨Nat.zero_le _, Nat.zero_le _, by decide⟩ ⟨Nat.zero_le _, Nat.zero_le _, by decide⟩ (by decide)).mono ?_
        rintro e w8 ⟨rfl, hb8⟩
        go_wp2_with fail
        refine (law_happened _).mono ?_
        rintro e w9 ⟨rfl, hb9⟩
        go_wp2
        go_ret
        exact ⟨rfl, below_chain hB (below_chain h26 (below_chain hb7 (below_chain hb8 hb9)))⟩
      · have hT := hbno hk
        rw [hT] at ya
        generalize checkV (t, d, n) = ck at ka hk
        clear hput hcut hbno hby bl hT
        go_enter Try.func7, Try.ntmps7
        go_wp2_with fail
        refine (ga _).mono ?_
        rintro e w1 ⟨rfl, hb1⟩
        have R1 := R0.next hb1
        have p0 := R1.cell 0 (by simp)
        have p1 := R1.cell 1 (by simp)
        have p2 := R1.cell 2 (by simp)
        simp only [List.getElem_cons_zero, List.getElem_cons_succ] at p0 p1 p2
        clear R1 R0 ga
        go_wp2_with fail
        refine (ea _).mono ?_
        rintro e w2 ⟨rfl, hb2⟩
        have b2 := bx w2
        have z2 := lit_below w2 (.cells #[.string t, .string d, .float .f64 n] 28)
        clear ea p0 p1 p2
        go_wp2_with fail
        refine (ya _).mono ?_
        rintro e w3 ⟨rfl, hb3⟩
        obtain ⟨x0, x1, x2⟩ := b2 w3 hb3
        clear ya
        go_wp2_with fail
        refine (ka _).mono ?_
        rintro e w4 ⟨rfl, hb4⟩
        clear ka x0 x1 x2
        go_wp2_with fail
        refine (law_happened _).mono ?_
        rintro e w5 ⟨rfl, hb5⟩
        go_wp2
        go_ret
        exact ⟨rfl, below_chain z0 (below_chain hb1 (below_chain hb2 (below_chain z2 (below_chain hb3 (below_chain hb4 hb5)))))⟩
    · have hl' : (500 : Int) < Z.length := by omega
      go_enter Try.func7, Try.ntmps7
      go_wp2_with fail
      refine (ga _).mono ?_
      rintro e w1 ⟨rfl, hb1⟩
      go_wp2_with fail
      refine (law_happened _).mono ?_
      rintro e w2 ⟨rfl, hb2⟩
      go_wp2
      go_ret
      exact ⟨rfl, below_chain z0 (below_chain hb1 hb2)⟩
  · go_enter Try.func7, Try.ntmps7
    go_wp2_with fail
    refine (ga _).mono ?_
    rintro e w1 ⟨rfl, hb1⟩
    go_wp2_with fail
    refine (law_happened _).mono ?_
    rintro e w2 ⟨rfl, hb2⟩
    go_wp2
    go_ret
    exact ⟨rfl, below_chain z0 (below_chain hb1 hb2)⟩
end Go.Proofs.Ytiojapjidgjaoaa
