/-
  Rows.SumsAlikeSaid: texts of one length, put against each other byte by byte, have the sum that the three sums, put against each other, are.
-/
import Derived.Test.YtigjjggkcagkmaaSumsLaw
import Derived.Test.YtigjjggkcagkmaaRegion
namespace Go.Proofs.Ytigjjggkcagkmaa
open Go.RowKit
set_option linter.unusedVariables false

theorem alike_round (A B C : List UInt8) (x y z : UInt8) (m : Nat) (h1 : A.length = B.length) (h2 : A.length = C.length) :
    (cellsB (xor3 A B C) ++ zeroB (m + 1)).set A.length (.int .u8 (bits BinOp.xor IntKind.u8 (bits BinOp.xor IntKind.u8 (x.toNat : Int) (y.toNat : Int)) (z.toNat : Int))) =
      cellsB (xor3 (A ++ [x]) (B ++ [y]) (C ++ [z])) ++ zeroB m := by
  have hx := x.toNat_lt
  have hy := y.toNat_lt
  have hz := z.toNat_lt
  have e : bits BinOp.xor IntKind.u8 (bits BinOp.xor IntKind.u8 (x.toNat : Int) (y.toNat : Int)) (z.toNat : Int) = ((x ^^^ y ^^^ z).toNat : Int) := by
    rw [u8_xor_nat _ _ hx hy, u8_xor_nat _ _ (Nat.xor_lt_two_pow (n := 8) hx hy) hz, UInt8.toNat_xor, UInt8.toNat_xor]
  rw [e, xor3_snoc A B C x y z h1 h2]
  have hl : (cellsB (xor3 A B C)).length = A.length := by rw [length_cellsB, length_xor3 A B C h1 h2]
  rw [List.set_append_right _ _ (by omega), hl, Nat.sub_self]
  simp [cellsB, zeroB, List.replicate_succ]

set_option maxHeartbeats 1000000 in
theorem SumsAlike_walk (a b c : ByteArray) (w : World) (ha : a.size ≤ maxLen) (hb : b.size ≤ maxLen) (hc : c.size ≤ maxLen) :
    Calls Try.prog 13 #[.string a, .string b, .string c] w fun e w' => e = .returned (.bool true) ∧ Below w.heap.size w w' := by
  unfold maxLen at ha hb hc
  obtain ⟨n, hn⟩ : ∃ n : Nat, n = min (min a.size b.size) c.size := ⟨_, rfl⟩
  have hmin : (if (c.size : Int) < (if b.size < a.size then (b.size : Int) else (a.size : Int)) then (c.size : Int) else (if b.size < a.size then (b.size : Int) else (a.size : Int))) = (n : Int) := by
    rw [hn]; repeat' split
    all_goals omega
  have hna : n ≤ a.size := by omega
  have hnb : n ≤ b.size := by omega
  have hnc : n ≤ c.size := by omega
  clear hn
  by_cases h : n ≤ 3000
  · have h' : (n : Int) ≤ 3000 := by omega
    obtain ⟨i0, hi0, hz0, hz1, hz2⟩ := info_parts infoByte
    go_enter Try.func13, Try.ntmps13
    go_wp2_with (at_make; refine wpList_make_full _ rfl _ _ 50 rfl w.heap.size 5 i0 _ 1 Try.underlying50 hi0 hz0 hz1 .i64 .i64 n n n rfl rfl rfl rfl (by rw [hz2]; omega) (by unfold maxLen; omega) (Nat.le_refl _) ?_; intro w1 hown hg1)
    have hrow1 := Row.of_own hown
    rw [made_bytes] at hrow1
    have hb1 : Below w.heap.size w w1 := (Below.refl _ _).grown hg1 (Nat.le_refl _) (by simp)
    clear hown hg1 hmin
    go_loopw [9] (fun i wr => ∃ k : Nat, k ≤ n ∧ i = .int .i64 k ∧ Row wr w.heap.size 5 (cellsB (xor3 ((lb a).take k) ((lb b).take k) ((lb c).take k)) ++ zeroB (n - k)) ∧ Below w.heap.size w wr) (fun i _ => n - (intOf i).toNat)
    case atStart => exact ⟨0, Nat.zero_le _, rfl, by simpa [xor3, cellsB] using hrow1, hb1⟩
    case round =>
      obtain ⟨k, hk, rfl, hrow, hbr⟩ := hrel
      clear hrow1 hb1
      by_cases hlt : k < n
      · have hla : ((lb a).take k).length = k := by simp; omega
        have hlb : ((lb b).take k).length = k := by simp; omega
        have hlc : ((lb c).take k).length = k := by simp; omega
        have hlen : (cellsB (xor3 ((lb a).take k) ((lb b).take k) ((lb c).take k)) ++ zeroB (n - k)).length = n := by
          rw [List.length_append, length_cellsB, length_xor3 _ _ _ (by omega) (by omega), hla]; simp [zeroB]; omega
        obtain ⟨v, hcell⟩ : ∃ v, wr.cell? ⟨w.heap.size, k, none⟩ = some v := ⟨_, hrow.cell k (by omega)⟩
        have hfz := hrow.frozen k (by omega)
        have i1 : (k : Int) < a.size := by omega
        have i2 : (k : Int) < b.size := by omega
        have i3 : (k : Int) < c.size := by omega
        have i4 : (k : Int) < n := by omega
        have n1 : k < a.size := by omega
        have n2 : k < b.size := by omega
        have n3 : k < c.size := by omega
        have Hrow := Lib.hid hrow
        have Hlen := Lib.hid hlen
        have Hla := Lib.hid hla
        have Hlb := Lib.hid hlb
        have Hlc := Lib.hid hlc
        clear hrow hlen hla hlb hlc
        go_wp2_with fail
        go_region
        have hset := Hrow.out.set k (.int .u8 (bits BinOp.xor IntKind.u8 (bits BinOp.xor IntKind.u8 (a[k].toNat : Int) (b[k].toNat : Int)) (c[k].toNat : Int)))
        have er := alike_round ((lb a).take k) ((lb b).take k) ((lb c).take k) a[k] b[k] c[k] (n - (k + 1)) (by rw [Hla.out, Hlb.out]) (by rw [Hla.out, Hlc.out])
        rw [Hla.out, show n - (k + 1) + 1 = n - k from by omega] at er
        rw [er, ← take_lb_succ a k n1, ← take_lb_succ b k n2, ← take_lb_succ c k n3] at hset
        have hbr2 := (hbr.setCell (p := ⟨w.heap.size, k, none⟩) (Nat.le_refl _) (.int .u8 (bits BinOp.xor IntKind.u8 (bits BinOp.xor IntKind.u8 (a[k].toNat : Int) (b[k].toNat : Int)) (c[k].toNat : Int)))).drew
        have hset2 := hset.drew
        generalize (wr.setCell ⟨w.heap.size, k, none⟩ (.int .u8 (bits BinOp.xor IntKind.u8 (bits BinOp.xor IntKind.u8 (a[k].toNat : Int) (b[k].toNat : Int)) (c[k].toNat : Int)))).drew = w3 at hset2 hbr2 ⊢
        clear hset er hcell hfz Hrow Hlen Hla Hlb Hlc
        go_wp2
        go_roundw
        case rel => exact ⟨k + 1, by omega, by go_num, hset2, hbr2⟩
        case measure => simp [intOf]; omega
      · obtain rfl : k = n := by omega
        have hrow' : Row wr w.heap.size 5 (cellsB (xor3 ((lb a).take k) ((lb b).take k) ((lb c).take k))) := by simpa [zeroB] using hrow
        have hl3 : (xor3 ((lb a).take k) ((lb b).take k) ((lb c).take k)).length = k := by
          rw [length_xor3 _ _ _ (by simp; omega) (by simp; omega)]; simp; omega
        have hcv := fun x : Later wr => Row.conv (P := Try.prog) (cap := k) (n := k) (hrow'.next x.ok) hl3 Try.underlying50 Try.underlying5 Try.underlying9
        have hsz : (bs (xor3 ((lb a).take k) ((lb b).take k) ((lb c).take k))).size ≤ maxLen := by rw [size_bs, hl3]; unfold maxLen; omega
        have hsum : bits BinOp.xor IntKind.u32 (bits BinOp.xor IntKind.u32 ((sumL (lb (a.extract 0 k)) : Nat) : Int) ((sumL (lb (b.extract 0 k)) : Nat) : Int)) ((sumL (lb (c.extract 0 k)) : Nat) : Int) = ((sumL (lb (bs (xor3 ((lb a).take k) ((lb b).take k) ((lb c).take k)))) : Nat) : Int) := by
          rw [lb_bs, sumL_xor3 _ _ _ (by simp; omega) (by simp; omega), u32_xor_nat _ _ (sumL_lt _) (sumL_lt _), u32_xor_nat _ _ (xor_lt (sumL_lt _) (sumL_lt _)) (sumL_lt _)]
          simp only [bs_extract, lb_bs, Nat.sub_zero, List.drop_zero]
        have hea : (a.extract 0 k).size ≤ maxLen := by rw [bs_extract]; simp [maxLen]; omega
        have heb : (b.extract 0 k).size ≤ maxLen := by rw [bs_extract]; simp [maxLen]; omega
        have hec : (c.extract 0 k).size ≤ maxLen := by rw [bs_extract]; simp [maxLen]; omega
        have Hsz := Lib.hid hsz
        have Hea := Lib.hid hea
        have Heb := Lib.hid heb
        have Hec := Lib.hid hec
        clear hsz hea heb hec hl3 hrow hrow'
        have i1 : (k : Int) ≤ a.size := by omega
        have i2 : (k : Int) ≤ b.size := by omega
        have i3 : (k : Int) ≤ c.size := by omega
        go_wp2_with fail
        refine wp_region_below (by kernel_rfl) (by kernel_rfl) ?_
        repeat (first | go_big_quiet_skip | (go_big_quiet_want; go_big_quiet_op; go_big_quiet_on) | (go_big_quiet_want; go_big_quiet_op; apply Exists.intro; refine ⟨fun x => ?_, ?_⟩; (first | (go_at_call 31; exact calls_same x (sums_Sum _ _ Hea.out)) | (go_at_call 31; exact calls_same x (sums_Sum _ _ Heb.out)) | (go_at_call 31; exact calls_same x (sums_Sum _ _ Hec.out)) | (go_at_call 31; exact calls_same x (sums_Sum _ _ Hsz.out)) | (go_at_call 30; exact calls_below x (law_summed _))); go_big_quiet_on))
        refine wpQuiet_nil ?_
        intro _ hx
        obtain ⟨⟨w2, hb2⟩, rfl⟩ := hx
        go_wp2
        go_ret
        exact ⟨rfl, below_more hbr hb2 (Nat.le_refl _)⟩
  · have h' : ¬ (n : Int) ≤ 3000 := by omega
    go_enter Try.func13, Try.ntmps13
    go_wp2_with fail
    refine (law_summed _).mono ?_
    rintro e w1 ⟨rfl, hb1⟩
    go_wp2
    go_ret
    exact ⟨rfl, hb1⟩
end Go.Proofs.Ytigjjggkcagkmaa
