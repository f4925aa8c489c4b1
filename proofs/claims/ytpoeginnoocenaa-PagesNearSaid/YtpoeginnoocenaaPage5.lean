/-
  PAGES: the program's May.
-/
import Derived.Test.YtpoeginnoocenaaPage4
import Derived.Test.YtpoeginnoocenaaBloomHas
namespace Go.Proofs.Ytpoeginnoocenaa
open Go.RowKit Go.Maps
set_option linter.unusedVariables false

theorem pageF_len {L : List UInt8} {n : Nat} {P : List UInt8} (h : pageF L n = some P) : P.length = 60 := by
  unfold pageF at h
  split at h
  · rename_i h9
    cases h
    have := openA_len h9.2
    rw [rawF_len h9.1] at this
    omega
  · cases h
theorem box3P (w : World) (a b c : Value) (t : TypeId) (w' : World) (hb : Below (w.alloc (.cells #[a, b, c] t)).heap.size (w.alloc (.cells #[a, b, c] t)) w') :
    w'.cell? ⟨w.heap.size, 0, none⟩ = some a ∧ w'.cell? ⟨w.heap.size, 1, none⟩ = some b ∧ w'.cell? ⟨w.heap.size, 2, none⟩ = some c := by
  have hblk : (w.alloc (.cells #[a, b, c] t)).heap[w.heap.size]? = some (.cells #[a, b, c] t (0, 0)) := heap_alloc_new w _
  have h : ∀ j v, (#[a, b, c] : Array Value)[j]? = some v → w'.cell? ⟨w.heap.size, j, none⟩ = some v := fun j v h => by
    refine (hb.cell (p := ⟨w.heap.size, j, none⟩) (Array.getElem?_eq_some_iff.1 hblk).1).trans ?_
    unfold World.cell?
    rw [hblk]
    simpa using h
  exact ⟨h 0 _ rfl, h 1 _ rfl, h 2 _ rfl⟩
theorem zero_str (w : World) : (zeroValue 9).run Try.prog w = .ok (.string ⟨#[]⟩) w := by kernel_rfl
set_option maxRecDepth 100000 in
set_option maxHeartbeats 4000000 in
theorem pages_May (v : Value) (L : List UInt8) (h : Nat) (w : World) (hf : FilterV w v L) (hh : h < 18446744073709551616) :
    Calls Try.prog 25 #[v, .int .u64 h] w fun e w' => e = .returned (.bool (mayF L h)) ∧ Below w.heap.size w w' := by
  rcases hf with ⟨rfl, hno⟩ | ⟨B, nn, D, rfl, hok, hown, hall⟩
  · have Hm := Lib.hid (mayF_not h hno)
    have hbox := box3P w (.int .i64 0) (.int .i64 0) (.map none) 42
    have hl := (Below.refl w.heap.size w).alloc (Nat.le_refl _) (.cells #[.int .i64 0, .int .i64 0, .map none] 42)
    clear hno
    go_enter Try.func25, Try.ntmps25
    go_wp2_with fail
    generalize w.alloc (.cells #[.int .i64 0, .int .i64 0, .map none] 42) = w1 at hl hbox ⊢
    go_loopw [11] (fun i wr => i = .int .i64 0 ∧ Below w.heap.size w wr) (fun _ _ => 0)
    case atStart => exact ⟨rfl, hl⟩
    case round =>
      obtain ⟨rfl, hbr⟩ := hrel
      go_wp2
      go_ret
      exact ⟨by rw [Hm.out]; rfl, hbr⟩
  · have hp8 : probesF L < 256 := by unfold probesF; exact (L.getD 3 0).toNat_lt
    have hmay := hok
    unfold okF at hmay
    rw [Bool.and_eq_true, Bool.and_eq_true] at hmay
    obtain ⟨m1, m2, m3, m4, m5⟩ := (mayI_iff _ _).1 hmay.2.1
    obtain ⟨Z, hZ⟩ : ∃ Z, Z = sizeF L := ⟨_, rfl⟩
    obtain ⟨p, hp⟩ : ∃ p, p = probesF L := ⟨_, rfl⟩
    rw [← hZ] at m1 m2 m3 hall ⊢
    rw [← hp] at m4 m5 hp8 ⊢
    have HZ := Lib.hid hZ
    have HP := Lib.hid hp
    have Hok := Lib.hid hok
    have Hall := Lib.hid hall
    have Hm3 := Lib.hid m3
    have hbox := fun w' hb => box3P w (.int .i64 (p : Int)) (.int .i64 (Z : Int)) (.map (some B)) 42 w' hb
    have hl := (Below.refl w.heap.size w).alloc (Nat.le_refl _) (.cells #[.int .i64 (p : Int), .int .i64 (Z : Int), .map (some B)] 42)
    have hown1 := hown.alloc (.cells #[.int .i64 (p : Int), .int .i64 (Z : Int), .map (some B)] 42)
    have z0 : (0 : Int) ≤ (Z : Int) := by omega
    have p0 : (0 : Int) ≤ (p : Int) := by omega
    have KI := int_keyed (P := Try.prog) (k := 3) Try.underlying3
    have hzd : plainElem (H := Unit) Try.prog 9 (.string ⟨#[]⟩) = some (.lit (.string []), []) := plainElem_string Try.underlying9 (by unfold maxLen; show (0 : Nat) ≤ _; omega)
    clear hZ hp hmay hok hall m3 hown
    go_enter Try.func25, Try.ntmps25
    go_wp2_with fail
    obtain ⟨X, hX⟩ : ∃ X, X = w.heap.size := ⟨_, rfl⟩
    rw [← hX] at hbox ⊢
    generalize w.alloc (.cells #[.int .i64 (p : Int), .int .i64 (Z : Int), .map (some B)] 42) = w1 at hl hbox hown1 ⊢
    have HB := Lib.hid hbox
    have HO := Lib.hid hown1
    clear hX hbox hown1
    go_loopw [11] (fun i wr => ∃ k : Nat, k ≤ p ∧ i = .int .i64 (k : Int) ∧ (∀ j, j < k → bitF L (prN h j (8 * Z)) = true) ∧ Below w1.heap.size w1 wr) (fun i _ => p - (intOf i).toNat)
    case atStart => exact ⟨0, Nat.zero_le _, rfl, fun j hj => by omega, Below.refl _ _⟩
    case round =>
      obtain ⟨k, hk, rfl, hall, hbr⟩ := hrel
      have Hall2 := Lib.hid hall
      clear hall
      obtain ⟨x0, x1, x2⟩ := HB.out wr hbr
      by_cases hlt : k < p
      · have j1 : (k : Int) < p := by omega
        have hb8 : 0 < 8 * Z := by omega
        have ep := prB_nat h k (8 * Z) hb8
        have hbl := prN_lt h k hb8
        rw [show ((8 * Z : Nat) : Int) = 8 * (Z : Int) from by omega] at ep
        obtain ⟨b, hb⟩ : ∃ b, b = prN h k (8 * Z) := ⟨_, rfl⟩
        rw [← hb] at ep hbl
        have cP := fun w => blooms_Probe h (k : Int) (8 * (Z : Int)) w hh (by omega) (by omega)
        rw [ep] at cP
        have Hb := Lib.hid hb
        clear hb ep
        obtain ⟨n, hn⟩ : ∃ n, n = b / 480 := ⟨_, rfl⟩
        have e1 : (b : Int) / 8 / 60 = (n : Int) := by omega
        have hnm : n < Z / 60 := by have := Hm3.out; omega
        have b0 : (0 : Int) ≤ (b : Int) := by omega
        obtain ⟨hhas, hat⟩ := Hall.out n hnm
        have HN := Lib.hid hn
        have hnext : bitF L b = true → ∀ j, j < k + 1 → bitF L (prN h j (8 * Z)) = true := by
          intro h1 j hj
          by_cases hjk : j = k
          · rw [hjk, ← Hb.out]; exact h1
          · exact Hall2.out j (by omega)
        have Hnext := Lib.hid hnext
        have hkey : keyOf Try.prog 3 (.int .i64 ((b : Int) / 8 / 60)) = some (keyI n) := by rw [e1]; exact keyOf_int_mk Try.underlying3 (wf_i64P (by omega) (by omega))
        have HOr := Lib.hid (HO.out.kept (w' := wr) (row := none) ⟨hbr.os, hbr.tape, hbr.output, hbr.size, fun k hk _ => hbr.block k hk⟩ (by simp))
        have hzw := zero_str wr
        have b1 : b < 960001 := by omega
        clear hn hnext hbl hb8 e1
        rcases hpg : pageF L n with _ | P9
        · rw [hpg] at hhas
          have HT := Lib.hid (Hnext.out (bitF_none (by rw [← HN.out]; exact hpg)))
          clear hpg hat
          go_wp2_with fail
          refine (cP _).mono ?_
          rintro e w' ⟨rfl, rfl⟩
          go_wp2_with (first
            | (at_lookup; refine wpList_lookup_own_ok _ rfl _ _ 40 rfl 3 9 KI Try.underlying40 (plainElem Try.prog 9) hzw (.lit (.string [])) [] hzd B nn D rfl HOr.out _ (keyI n) rfl hkey ?_; intro v9 ps9 hv9; rw [hhas]))
          obtain ⟨q9, rfl, -, -⟩ := plainElem_string_inv Try.underlying9 hv9
          clear hv9 hkey hzw hzd x0 x1 x2 cP hhas
          refine wp_region_below (by kernel_rfl) (by kernel_rfl) ?_
          repeat (first | go_big_quiet_skip | (go_big_quiet_want; go_big_quiet_op; go_big_quiet_on) | (go_big_quiet_want; go_big_quiet_op; apply Exists.intro; refine ⟨fun x => ?_, ?_⟩; (fail); go_big_quiet_on))
          refine wpQuiet_nil ?_
          intro _ hx
          obtain ⟨⟨w2, hb2⟩, rfl⟩ := hx
          go_wp2
          go_roundw
          case rel => exact ⟨k + 1, by omega, by go_num, HT.out, below_chain hbr hb2⟩
          case measure => simp [intOf]; omega
        · rw [hpg] at hhas
          have hat9 := hat P9 hpg
          have hl60 := pageF_len hpg
          have hbf := bitF_some (b := b) (by rw [← HN.out]; exact hpg)
          clear hpg hat
          have Hat := Lib.hid hat9
          have Hbf := Lib.hid hbf
          have Hl := Lib.hid hl60
          clear hat9 hbf hl60
          go_wp2_with fail
          refine (cP _).mono ?_
          rintro e w' ⟨rfl, rfl⟩
          go_wp2_with (first
            | (at_lookup; refine wpList_lookup_own_ok _ rfl _ _ 40 rfl 3 9 KI Try.underlying40 (plainElem Try.prog 9) hzw (.lit (.string [])) [] hzd B nn D rfl HOr.out _ (keyI n) rfl hkey ?_; intro v9 ps9 hv9; rw [hhas]))
          obtain ⟨q9, rfl, hz9, -⟩ := plainElem_string_inv Try.underlying9 hv9
          have hq9 : lb q9 = P9 := by
            have h9 := congrArg Prod.fst hz9
            simp only [Hat.out] at h9
            injection h9 with h9
            injection h9 with h9
            exact h9.symm
          have s9 : q9.size = 60 := by rw [← length_lb, hq9]; exact Hl.out
          have hq : b / 8 % 60 < q9.size := by omega
          have hq2 : (b % 480) / 8 = b / 8 % 60 := by omega
          have hr2 : (b % 480) % 8 = b % 8 := by omega
          have hbit9 := bitL_at q9 (b % 480) (by rw [hq2]; exact hq)
          simp only [hq2, hr2] at hbit9
          have hbf := Hbf.out
          rw [← hq9, hbit9] at hbf
          have hw := and_bit q9[b / 8 % 60].toNat (b % 8) q9[b / 8 % 60].toNat_lt (by omega)
          have c1 : (b : Int) / 8 % 60 < 60 := by omega
          have c2 : (0 : Int) ≤ (b : Int) / 8 % 60 := by omega
          have c3 : (b : Int) % 8 ≤ 7 := by omega
          have c4 : (0 : Int) ≤ (b : Int) % 8 := by omega
          have c5 : (0 : Int) ≤ (b : Int) / 8 := by omega
          clear hv9 hz9 hq9 hkey hzw hzd x0 x1 x2 cP hhas Hat Hl hbit9 hr2 Hbf
          rcases hbit : (q9[b / 8 % 60].toNat / 2 ^ (b % 8) % 2 == 1) with _ | _
          · rw [hbit] at hw hbf
            have hF := mayF_no (L := L) (h := h) (i := k) Hok.out (by rw [← HP.out]; exact hlt) (by rw [← HZ.out, ← Hb.out]; exact hbf)
            have HF := Lib.hid hF
            clear hbf hF hbit
            refine wp_region_below (by kernel_rfl) (by kernel_rfl) ?_
            repeat (first | go_big_quiet_skip | (go_big_quiet_want; go_big_quiet_op; go_big_quiet_on) | (go_big_quiet_want; go_big_quiet_op; apply Exists.intro; refine ⟨fun x => ?_, ?_⟩; (fail); go_big_quiet_on))
            refine wpQuiet_nil ?_
            intro _ hx
            obtain ⟨⟨w2, hb2⟩, rfl⟩ := hx
            go_wp2
            go_ret
            exact ⟨by rw [HF.out]; rfl, below_chain hl (below_chain hbr hb2)⟩
          · rw [hbit] at hw hbf
            have HT := Lib.hid (Hnext.out hbf)
            clear hbf hbit
            refine wp_region_below (by kernel_rfl) (by kernel_rfl) ?_
            repeat (first | go_big_quiet_skip | (go_big_quiet_want; go_big_quiet_op; go_big_quiet_on) | (go_big_quiet_want; go_big_quiet_op; apply Exists.intro; refine ⟨fun x => ?_, ?_⟩; (fail); go_big_quiet_on))
            refine wpQuiet_nil ?_
            intro _ hx
            obtain ⟨⟨w2, hb2⟩, rfl⟩ := hx
            go_wp2
            go_roundw
            case rel => exact ⟨k + 1, by omega, by go_num, HT.out, below_chain hbr hb2⟩
            case measure => simp [intOf]; omega
      · obtain rfl : k = p := by omega
        have j1 : ¬ (k : Int) < k := by omega
        have hT := mayF_yes (L := L) (h := h) (by rw [← HP.out, ← HZ.out]; exact Hall2.out)
        have HT := Lib.hid hT
        clear hT
        go_wp2
        go_ret
        exact ⟨by rw [HT.out]; rfl, below_chain hl hbr⟩
end Go.Proofs.Ytpoeginnoocenaa
