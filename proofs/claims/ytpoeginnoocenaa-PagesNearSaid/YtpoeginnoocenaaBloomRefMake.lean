/-
  The reference's Make by its contract.
-/
import Derived.Test.YtpoeginnoocenaaBloomMake
namespace Go.Proofs.Ytpoeginnoocenaa
open Go.RowKit
set_option linter.unusedVariables false

/-- A row of bools. -/
def boolsC (f : Nat → Bool) (k : Nat) : List Value := (List.range k).map fun b => .bool (f b)
@[simp] theorem length_boolsC (f : Nat → Bool) (k : Nat) : (boolsC f k).length = k := by simp [boolsC]
theorem boolsC_get (f : Nat → Bool) (k b : Nat) (h : b < (boolsC f k).length) : (boolsC f k)[b] = .bool (f b) := by simp [boolsC]
theorem boolsC_set (f : Nat → Bool) (k b : Nat) (hb : b < k) : (boolsC f k).set b (.bool true) = boolsC (fun x => f x || b == x) k := by
  apply List.ext_getElem
  · simp
  · intro j h1 h2
    rw [boolsC_get]
    by_cases hj : j = b
    · subst hj; rw [List.getElem_set_self]; simp
    · rw [List.getElem_set_ne (by omega), boolsC_get]
      have : (b == j) = false := by rw [beq_eq_false_iff_ne]; omega
      rw [this, Bool.or_false]
theorem infoBool : (Try.prog.info? 4).map (fun i => (i.zero, i.size, i.bytes)) = some (some (.bool false), 1, 1) := by kernel_rfl
theorem make_bools (w : World) (n : Nat) (hn : n ≤ 1000000000) :
    ∃ w', (Instr.makeSlice 36 (.int .i64 (n : Int)) (.int .i64 (n : Int))).run Try.prog w = .ok (.slice (some ⟨w.heap.size, 0, none⟩) n n) w' ∧ Row w' w.heap.size 4 (boolsC (fun _ => false) n) ∧ Below w.heap.size w w' := by
  refine ⟨_, run_make_row' 36 4 (.bool false) 1 Try.underlying36 infoBool rfl .i64 .i64 n (by omega) (by omega) w, ?_, (Below.refl _ _).alloc (Nat.le_refl _) _⟩
  have h := Row.new w (madeCells #[.bool false] n) 4
  have e : (madeCells #[Value.bool false] n).toList = boolsC (fun _ => false) n := by
    unfold madeCells boolsC
    simp [Nat.mod_one]
  rw [e] at h
  exact h
/-- A byte, bit by bit, the highest one first. -/
def horn (f : Nat → Bool) : Nat → Nat
  | 0 => 0
  | c + 1 => 2 * horn f c + (f (7 - c)).toNat
theorem horn_lt (f : Nat → Bool) : ∀ c, horn f c < 2 ^ c
  | 0 => by simp [horn]
  | c + 1 => by
    have := horn_lt f c
    have hb : (f (7 - c)).toNat ≤ 1 := Bool.toNat_le _
    unfold horn
    rw [Nat.pow_succ]; omega
theorem horn_byte (f : Nat → Bool) : horn f 8 = byte8 f := by
  simp only [horn, byte8, byteN, Nat.reduceSub]
  omega
/-- What stands in the row while byte number i is made. -/
def madeL (f : Nat → Bool) (q i x : Nat) : List UInt8 := packL f i ++ UInt8.ofNat x :: List.replicate (q - i - 1) 0
theorem length_madeL (f : Nat → Bool) (q i x : Nat) (h : i < q) : (madeL f q i x).length = q := by simp [madeL]; omega
theorem madeL_get (f : Nat → Bool) (q i x : Nat) (h : i < (madeL f q i x).length) : (madeL f q i x)[i] = UInt8.ofNat x := by
  unfold madeL at *
  rw [List.getElem_append_right (by simp)]; simp
theorem madeL_set (f : Nat → Bool) (q i x y : Nat) : (madeL f q i x).set i (UInt8.ofNat y) = madeL f q i y := by
  unfold madeL
  rw [List.set_append_right _ _ (by simp)]; simp
theorem packL_succ (f : Nat → Bool) (i : Nat) : packL f (i + 1) = packL f i ++ [UInt8.ofNat (byte8 fun s => f (8 * i + s))] := by simp [packL, List.range_succ]
theorem madeL_next (f : Nat → Bool) (q i : Nat) (h : i < q) : madeL f q i (byte8 fun s => f (8 * i + s)) = packL f (i + 1) ++ List.replicate (q - (i + 1)) 0 := by
  rw [packL_succ]; unfold madeL
  rw [List.append_assoc]; congr 2
theorem madeL_start (f : Nat → Bool) (q i : Nat) (h : i < q) : packL f i ++ List.replicate (q - i) 0 = madeL f q i 0 := by
  unfold madeL
  rw [show q - i = (q - i - 1) + 1 from by omega, List.replicate_succ]; simp

set_option maxHeartbeats 4000000 in
theorem ref_Make_ (v : Value) (l : List Nat) (n bits : Int) (w : World) (hv : U64s w v l) (hl : l.length ≤ 1000000) (hn : -9223372036854775808 ≤ n ∧ n ≤ 9223372036854775807) (hbits : -9223372036854775808 ≤ bits ∧ bits ≤ 9223372036854775807) :
    Calls Try.prog 20 #[v, .int .i64 n, .int .i64 bits] w fun e w' => e = .returned (.string (bs (makeL l n bits))) ∧ Below w.heap.size w w' := by
  obtain ⟨hr, hsm⟩ := hv
  obtain ⟨A, c, rfl, hc1, hc2, -, -⟩ := id hr
  unfold maxLen at hc2
  obtain ⟨hn1, hn2⟩ := hn
  by_cases hno : bits < 1 ∨ 1000000 < bits ∨ bits % 8 ≠ 0
  · have e : makeL l n bits = [] := if_pos hno
    rw [e]; clear e
    obtain ⟨hb1, hb2⟩ := hbits
    by_cases h1 : bits < 1
    · clear hno
      go_enter Try.func20, Try.ntmps20
      go_wp2
      go_ret
      exact ⟨rfl, Below.refl _ _⟩
    · obtain ⟨b, rfl⟩ := Int.eq_ofNat_of_zero_le (a := bits) (by omega)
      have d1 : decide ((b : Int) < 1) = false := by rw [decide_eq_false_iff_not]; exact h1
      by_cases h2 : 1000000 < b
      · have d2 : decide ((1000000 : Int) < b) = true := by rw [decide_eq_true_iff]; omega
        clear hno h1 h2 hb1 hb2
        go_enter Try.func20, Try.ntmps20
        go_wp2
        go_ret
        exact ⟨rfl, Below.refl _ _⟩
      · have d2 : decide ((1000000 : Int) < b) = false := by rw [decide_eq_false_iff_not]; omega
        have d3 : decide ((0 : Int) < (b : Int) % 8) = true := by rw [decide_eq_true_iff]; omega
        clear hno h1 h2 hb1 hb2
        go_enter Try.func20, Try.ntmps20
        go_wp2
        go_ret
        exact ⟨rfl, Below.refl _ _⟩
  · obtain ⟨q, hq⟩ : ∃ q : Nat, bits = ((8 * q : Nat) : Int) := ⟨(bits / 8).toNat, by omega⟩
    subst hq
    have hq1 : 0 < q := by omega
    have hq2 : q ≤ 125000 := by omega
    have e : makeL l n ((8 * q : Nat) : Int) = packL (onB l n (8 * q)) q := by
      unfold makeL
      rw [if_neg hno]; congr 1 <;> omega
    rw [e]; clear e hno hbits
    obtain ⟨B, hB⟩ : ∃ B, B = 8 * q := ⟨_, rfl⟩
    rw [← hB]
    have d1 : decide ((B : Int) < 1) = false := by rw [decide_eq_false_iff_not]; omega
    have d2 : decide ((1000000 : Int) < B) = false := by rw [decide_eq_false_iff_not]; omega
    have d3 : decide ((0 : Int) < (B : Int) % 8) = false := by rw [decide_eq_false_iff_not]; omega
    have d4 : (B : Int) / 8 = (q : Int) := by omega
    have HBe := Lib.hid hB
    have Hsm := Lib.hid hsm
    obtain ⟨w1, hmk, hrow1, hb1⟩ := make_bools w B (by omega)
    clear hB hsm
    go_enter Try.func20, Try.ntmps20
    go_wp2_with fail
    obtain ⟨G, hG⟩ : ∃ G, G = w.heap.size := ⟨_, rfl⟩
    rw [← hG] at hrow1 hmk ⊢
    have hwG : w.heap.size ≤ G := by rw [hG]; exact Nat.le_refl _
    clear hmk
    have HG := Lib.hid hG
    clear hG
    go_loopw [8] (fun i wr => ∃ k : Nat, k ≤ l.length ∧ i = .int .i64 k ∧ Row wr G 4 (boolsC (onB (l.take k) n B) B) ∧ Below w.heap.size w wr) (fun i _ => l.length - (intOf i).toNat)
    case atStart => exact ⟨0, Nat.zero_le _, rfl, by rw [List.take_zero, onB_nil]; exact hrow1, hb1⟩
    case round =>
      obtain ⟨k, hk, rfl, hrow, hbr⟩ := hrel
      clear hrow1 hb1
      by_cases hlt : k < l.length
      · obtain ⟨b, off, rfl, -, -, -, hcell⟩ := hr.at_ (by omega)
        have hc0 : ∀ w', Below w.heap.size w w' → w'.cell? ⟨b, off + k, none⟩ = some (.int .u64 (l[k] : Nat)) := fun w' h => (hcell w' h k (by simp; omega)).trans (by simp [u64C])
        have hh := Hsm.out l[k] (List.getElem_mem hlt)
        have hsucc : onB (l.take (k + 1)) n B = orList (onB (l.take k) n B) (probesL l[k] B (manyN n)) := by
          rw [List.take_succ_eq_append_getElem hlt, onB_snoc]
        obtain ⟨h, hhe⟩ : ∃ h, h = l[k] := ⟨_, rfl⟩
        rw [← hhe] at hc0 hh hsucc
        have i1 : (k : Int) < l.length := by omega
        have Hsucc := Lib.hid hsucc
        have Hc0 := Lib.hid hc0
        obtain ⟨f, hf⟩ : ∃ f, f = onB (l.take k) n B := ⟨_, rfl⟩
        rw [← hf] at hrow
        have Hf := Lib.hid hf
        clear hcell hsucc hhe hc0 hf
        go_wp2_with fail
        go_loopw [9] (fun i wr => ∃ j : Nat, j ≤ manyN n ∧ i = .int .i64 j ∧ Row wr G 4 (boolsC (orList f (probesL h B j)) B) ∧ Below w.heap.size w wr) (fun i _ => 64 - (intOf i).toNat)
        case atStart => exact ⟨0, Nat.zero_le _, rfl, by simpa [probesL, orList_nil] using hrow, hbr⟩
        case round =>
          obtain ⟨j, hj, rfl, hrow, hbr⟩ := hrel
          by_cases hjm : j < manyN n
          · have j1 : (j : Int) < n := by unfold manyN at hjm; omega
            have j2 : (j : Int) < 64 := by unfold manyN at hjm; omega
            have hB1 : 0 < B := by have := HBe.out; omega
            have ep := prB_nat h j B hB1
            have hlt2 := prN_lt h j hB1
            have hps := probesL_succ h B j
            obtain ⟨p, hp⟩ : ∃ p, p = prN h j B := ⟨_, rfl⟩
            rw [← hp] at ep hlt2 hps
            have hcx := Hc0.out wr hbr
            have hcb := hrow.cell p (by simp; exact hlt2)
            rw [boolsC_get] at hcb
            have hfz := hrow.frozen p (by simp; exact hlt2)
            have hset := hrow.set p (.bool true)
            rw [boolsC_set _ _ _ hlt2, ← orList_snoc, ← hps] at hset
            have hbs := hbr.setCell (p := ⟨G, p, none⟩) hwG (.bool true)
            have p1 : (p : Int) < B := by omega
            have Hep := Lib.hid ep
            have Hset := Lib.hid hset
            have Hbs := Lib.hid hbs
            clear ep hset hbs hps hp hrow hB1
            generalize orList f (probesL h B j) p = bo at hcb
            go_wp2_with fail
            refine (ref_Probe _ _ _ _ hh (by omega) (by omega)).mono ?_
            rintro e w' ⟨rfl, rfl⟩
            rw [Hep.out]
            go_wp2
            go_roundw
            case rel => exact ⟨j + 1, by omega, by go_num, Hset.out, Hbs.out⟩
            case measure => simp [intOf]; omega
          · have jn : (j : Int) < n ∧ ¬ (j : Int) < 64 ∨ ¬ (j : Int) < n := by unfold manyN at hjm; omega
            have hjj : j = manyN n := by omega
            rw [hjj, Hf.out, ← Hsucc.out] at hrow
            have Hrow := Lib.hid hrow
            clear hrow hjj hjm
            rcases jn with ⟨j1, j2⟩ | j1
            all_goals
              go_wp2
              go_roundw
              case rel => exact ⟨k + 1, by omega, by go_num, Hrow.out, hbr⟩
              case measure => simp [intOf]; omega
      · obtain rfl : k = l.length := by omega
        rw [List.take_length] at hrow
        obtain ⟨w5, hmk5, hrow5, hb5⟩ := make_bytes wr q (by omega)
        have hbw5 := below_more hbr hb5 (Nat.le_refl _)
        have hrG := hrow.next hb5
        have hGlt := hrow.lt
        obtain ⟨G2, hG2⟩ : ∃ G, G = wr.heap.size := ⟨_, rfl⟩
        rw [← hG2] at hmk5 hrow5
        have hne : G ≠ G2 := by omega
        have hwG2 : w.heap.size ≤ G2 := by omega
        obtain ⟨F, hF⟩ : ∃ F, F = onB l n B := ⟨_, rfl⟩
        rw [← hF] at hrG
        have HF := Lib.hid hF
        have HG2 := Lib.hid hG2
        clear hG2 hF hrow hb5
        go_wp2_with fail
        clear hmk5
        go_loopw [11] (fun i wr => ∃ k : Nat, k ≤ q ∧ i = .int .i64 k ∧ Row wr G2 5 (cellsB (packL F k ++ List.replicate (q - k) 0)) ∧ Row wr G 4 (boolsC F B) ∧ Below w.heap.size w wr) (fun i _ => q - (intOf i).toNat)
        case atStart => exact ⟨0, Nat.zero_le _, rfl, by simpa [packL] using hrow5, hrG, hbw5⟩
        case round =>
          obtain ⟨k, hk, rfl, hr2, hrG, hbr⟩ := hrel
          clear hrow5 hbw5
          by_cases hlt : k < q
          · have i1 : (k : Int) < q := by omega
            rw [madeL_start _ _ _ hlt] at hr2
            have Hr2 := Lib.hid hr2
            clear hr2
            go_wp2_with fail
            go_loopw [12] (fun t wr => ∃ c : Nat, c ≤ 8 ∧ t = .int .i64 (7 - (c : Int)) ∧ Row wr G2 5 (cellsB (madeL F q k (horn (fun s => F (8 * k + s)) c))) ∧ Row wr G 4 (boolsC F B) ∧ Below w.heap.size w wr) (fun t _ => (intOf t + 1).toNat)
            case atStart => exact ⟨0, by omega, rfl, Hr2.out, hrG, hbr⟩
            case round =>
              obtain ⟨cc, hcc, rfl, hr2, hrG, hbr⟩ := hrel
              clear Hr2
              by_cases hc8 : cc < 8
              · obtain ⟨t, ht⟩ : ∃ t, t = 7 - cc := ⟨_, rfl⟩
                have et : (7 : Int) - (cc : Int) = (t : Int) := by omega
                rw [et]
                have hpB : 8 * k + t < B := by have := HBe.out; omega
                have hlen : k < (cellsB (madeL F q k (horn (fun s => F (8 * k + s)) cc))).length := by rw [length_cellsB, length_madeL _ _ _ _ hlt]; exact hlt
                have hhl := horn_lt (fun s => F (8 * k + s)) cc
                have hp7 : 2 ^ cc ≤ 2 ^ 7 := Nat.pow_le_pow_right (by omega) (by omega)
                have hsucc : horn (fun s => F (8 * k + s)) (cc + 1) = 2 * horn (fun s => F (8 * k + s)) cc + (F (8 * k + t)).toNat := by rw [ht]; rfl
                have hcx := hr2.cell k hlen
                rw [cellsB_getElem, madeL_get] at hcx
                obtain ⟨x, hx⟩ : ∃ x, x = horn (fun s => F (8 * k + s)) cc := ⟨_, rfl⟩
                rw [← hx] at hcx hhl hsucc hr2 hlen
                have hx128 : x ≤ 127 := by omega
                have ex : (UInt8.ofNat x).toNat = x := by simp; omega
                rw [ex] at hcx
                have hfz := hr2.frozen k hlen
                have hcb := hrG.cell (8 * k + t) (by simp; exact hpB)
                rw [boolsC_get] at hcb
                have hs1 := hr2.set k (.int .u8 ((x : Int) * 2))
                rw [cellsB_set _ _ _ (by omega) (by omega), show ((x : Int) * 2).toNat = 2 * x from by omega, madeL_set] at hs1
                have hg1 := hrG.far (p := ⟨G2, k, none⟩) hne (.int .u8 ((x : Int) * 2))
                have hb1 := hbr.setCell (p := ⟨G2, k, none⟩) hwG2 (.int .u8 ((x : Int) * 2))
                have hlen1 : k < (cellsB (madeL F q k (2 * x))).length := by rw [length_cellsB, length_madeL _ _ _ _ hlt]; exact hlt
                have c1 := hs1.cell k hlen1
                rw [cellsB_getElem, madeL_get, show (UInt8.ofNat (2 * x)).toNat = 2 * x from by simp; omega, show ((2 * x : Nat) : Int) = (x : Int) * 2 from by omega] at c1
                have f1 := hs1.frozen k hlen1
                have c2 := hg1.cell (8 * k + t) (by simp; exact hpB)
                rw [boolsC_get] at c2
                have hs2 := hs1.set k (.int .u8 ((x : Int) * 2 + 1))
                rw [cellsB_set _ _ _ (by omega) (by omega), show ((x : Int) * 2 + 1).toNat = 2 * x + 1 from by omega, madeL_set] at hs2
                have hg2 := hg1.far (p := ⟨G2, k, none⟩) hne (.int .u8 ((x : Int) * 2 + 1))
                have hb2 := hb1.setCell (p := ⟨G2, k, none⟩) hwG2 (.int .u8 ((x : Int) * 2 + 1))
                have x1 : (x : Int) ≤ 127 := by omega
                have t1 : (8 : Int) * k + t < B := by omega
                have t2 : (t : Int) ≤ 7 := by omega
                have Hs1 := Lib.hid hs1
                have Hs2 := Lib.hid hs2
                have Hg1 := Lib.hid hg1
                have Hg2 := Lib.hid hg2
                have Hb1 := Lib.hid hb1
                have Hb2 := Lib.hid hb2
                have Hsu := Lib.hid hsucc
                have Hx := Lib.hid hx
                have Ht := Lib.hid ht
                clear hs1 hs2 hg1 hg2 hb1 hb2 hsucc hx hr2 hrG hbr et hlen hlen1 hp7 hhl ex ht
                rcases hbo : F (8 * k + t) with _ | _
                · rw [hbo] at c2 hcb
                  have Hbo := Lib.hid hbo
                  clear hbo
                  go_wp2
                  go_roundw
                  case rel => exact ⟨cc + 1, by omega, by have := Ht.out; go_num, by rw [Hsu.out, Hbo.out]; exact Hs1.out, Hg1.out, Hb1.out⟩
                  case measure => simp [intOf]
                · rw [hbo] at c2 hcb
                  have Hbo := Lib.hid hbo
                  clear hbo
                  go_wp2
                  go_roundw
                  case rel => exact ⟨cc + 1, by omega, by have := Ht.out; go_num, by rw [Hsu.out, Hbo.out]; exact Hs2.out, Hg2.out, Hb2.out⟩
                  case measure => simp [intOf]
              · obtain rfl : cc = 8 := by omega
                rw [horn_byte, madeL_next _ _ _ hlt] at hr2
                go_wp2
                go_roundw
                case rel => exact ⟨k + 1, by omega, by go_num, hr2, hrG, hbr⟩
                case measure => simp [intOf]; omega
          · obtain rfl : k = q := by omega
            have hr3 : Row wr G2 5 (cellsB (packL F k)) := by simpa using hr2
            have hcv := Row.conv (P := Try.prog) (cap := k) (n := k) hr3 (by simp) Try.underlying34 Try.underlying5 Try.underlying9
            rw [HF.out] at hcv
            clear hr2 hr3
            go_wp2
            go_ret
            exact ⟨rfl, hbr⟩
end Go.Proofs.Ytpoeginnoocenaa
