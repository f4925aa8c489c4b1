/-
  PAGES: the reference's May.
-/
import Derived.Test.YtpoeginnoocenaaPage2
namespace Go.Proofs.Ytpoeginnoocenaa
open Go.RowKit
set_option linter.unusedVariables false

theorem sizeF_lt (L : List UInt8) : sizeF L < 4294967296 := by
  unfold sizeF getN
  have h := num_lt (((L.drop 4).take 4).take 8)
  have hl : (((L.drop 4).take 4).take 8).length ≤ 4 := by rw [List.length_take, List.length_take]; omega
  have := Nat.pow_le_pow_right (n := 256) (by omega) hl
  omega
theorem okF_no {L : List UInt8} (h : ¬ (64 ≤ L.length ∧ mayI (sizeF L) (probesF L) = true ∧ L.take 64 = headP (sizeF L) (probesF L))) : okF L = false := by
  unfold okF
  rw [← Bool.not_eq_true, Bool.and_eq_true, Bool.and_eq_true, decide_eq_true_eq, decide_eq_true_eq]
  exact h
theorem okF_yes {L : List UInt8} (h1 : 64 ≤ L.length) (h2 : mayI (sizeF L) (probesF L) = true) (h3 : L.take 64 = headP (sizeF L) (probesF L)) : okF L = true := by
  unfold okF
  rw [Bool.and_eq_true, Bool.and_eq_true, decide_eq_true_eq, decide_eq_true_eq]
  exact ⟨h1, h2, h3⟩
theorem bs_inj {a b : List UInt8} (h : bs a = bs b) : a = b := by
  have := congrArg lb h
  rwa [lb_bs, lb_bs] at this
theorem bitL_atP (l : List UInt8) (b : Nat) (hq : b / 8 < (bs l).size) : bitL l b = ((bs l)[b / 8].toNat / 2 ^ (b % 8) % 2 == 1) := by
  have key : ∀ (s : ByteArray) (h : b / 8 < s.size), bitL (lb s) b = (s[b / 8].toNat / 2 ^ (b % 8) % 2 == 1) := by
    intro s h
    unfold bitL
    rw [List.getD_eq_getElem?_getD, List.getElem?_eq_getElem (by rw [length_lb]; exact h)]
    rfl
  have := key (bs l) hq
  rwa [lb_bs] at this
set_option maxRecDepth 100000 in
set_option maxHeartbeats 4000000 in
theorem refP_May (s : ByteArray) (h : Nat) (w : World) (hs : s.size ≤ 1000000000) (hh : h < 18446744073709551616) :
    Calls Try.prog 26 #[.string s, .int .u64 h] w fun e w' => e = .returned (.bool (mayF (lb s) h)) ∧ Below w.heap.size w w' := by
  by_cases h64 : s.size < 64
  · have i1 : (s.size : Int) < 64 := by omega
    have hno : okF (lb s) = false := okF_no (by rw [length_lb]; omega)
    have hm := mayF_not h hno
    have Hm := Lib.hid hm
    clear hno hm
    go_enter Try.func26, Try.ntmps26
    go_wp2
    go_ret
    exact ⟨by rw [Hm.out]; rfl, Below.refl _ _⟩
  · have i1 : ¬ (s.size : Int) < 64 := by omega
    have hz := sizeF_lt (lb s)
    have hz1 := sizeF_eq s
    have hz2 := take64 s
    have hpr := probesF_eq s (by omega)
    have hp8 : probesF (lb s) < 256 := by rw [hpr]; exact s[3].toNat_lt
    have i3 : (3 : Int) < s.size := by omega
    have i4 : (8 : Int) ≤ s.size := by omega
    have i5 : (64 : Int) ≤ s.size := by omega
    have i6 : 3 < s.size := by omega
    obtain ⟨Z, hZ⟩ : ∃ Z, Z = sizeF (lb s) := ⟨_, rfl⟩
    obtain ⟨p, hp⟩ : ∃ p, p = probesF (lb s) := ⟨_, rfl⟩
    have cG : ∀ w', Calls Try.prog 42 #[.string (s.extract 4 8)] w' fun e w'' => e = .returned (.int .u64 (Z : Nat)) ∧ w' = w'' := fun w' => by
      have := ref_Get (s.extract 4 8) w' (by rw [ByteArray.size_extract]; unfold maxLen; omega)
      rw [hz1, ← hZ] at this; exact this
    have cM := fun w => refP_may (Z : Int) (p : Int) w (by omega) (by omega)
    have v3 : (s[3].toNat : Int) = (p : Int) := by rw [hp, hpr]
    have u1 : IntKind.i64.wrap (Z : Int) = (Z : Int) := by rw [IntKind.wrap_i64]; omega
    have z0 : (0 : Int) ≤ (Z : Int) := by omega
    have p0 : (0 : Int) ≤ (p : Int) := by omega
    rw [← hZ] at hz
    rw [← hp] at hp8 hpr
    have z1 : (Z : Int) < 4294967296 := by omega
    have p1 : (p : Int) < 256 := by omega
    have HZ := Lib.hid hZ
    have HP := Lib.hid hp
    have Hz2 := Lib.hid hz2
    clear hz1 hZ hp hz2 hpr
    go_enter Try.func26, Try.ntmps26
    go_wp2_with fail
    refine wp_region_below (by kernel_rfl) (by kernel_rfl) ?_
    repeat (first | go_big_quiet_skip | (go_big_quiet_want; go_big_quiet_op; go_big_quiet_on) | (go_big_quiet_want; go_big_quiet_op; apply Exists.intro; refine ⟨fun x => ?_, ?_⟩; (first | (go_at_call 42; exact calls_same x (cG _))); go_big_quiet_on))
    refine wpQuiet_nil ?_
    intro _ hx
    obtain ⟨⟨w1, hb1⟩, rfl⟩ := hx
    rename_i w1
    clear cG v3 u1 i3 i4
    go_wp2_with fail
    rcases hmay : mayI (Z : Int) (p : Int) with _ | _
    · rw [hmay] at cM
      have hno : okF (lb s) = false := okF_no (fun h9 => by rw [← HZ.out, ← HP.out, hmay] at h9; cases h9.2.1)
      have Hm := Lib.hid (mayF_not h hno)
      clear hno hmay
      refine wp_region_below (by kernel_rfl) (by kernel_rfl) ?_
      repeat (first | go_big_quiet_skip | (go_big_quiet_want; go_big_quiet_op; go_big_quiet_on) | (go_big_quiet_want; go_big_quiet_op; apply Exists.intro; refine ⟨fun x => ?_, ?_⟩; (first | (go_at_call 38; exact calls_same x (cM _))); go_big_quiet_on))
      refine wpQuiet_nil ?_
      intro _ hx
      obtain ⟨⟨w2, hb2⟩, rfl⟩ := hx
      go_wp2
      go_ret
      exact ⟨by rw [Hm.out]; rfl, below_chain hb1 hb2⟩
    · rw [hmay] at cM
      obtain ⟨m1, m2, m3, m4, m5⟩ := (mayI_iff _ _).1 hmay
      have cH := fun w => refP_Head Z p w (by omega) (by omega)
      have Hmay := Lib.hid hmay
      clear hmay m3 z1 hz
      by_cases heq : (lb s).take 64 = headP Z p
      · have hok : okF (lb s) = true := okF_yes (by rw [length_lb]; omega) (by rw [← HZ.out, ← HP.out]; exact Hmay.out) (by rw [← HZ.out, ← HP.out]; exact heq)
        have hx : bs (headP Z p) = s.extract 0 64 := by rw [← heq, ← Hz2.out, bs_lb]
        rw [hx] at cH
        have Hok := Lib.hid hok
        clear hok hx heq Hmay
        refine wp_region_below (by kernel_rfl) (by kernel_rfl) ?_
        repeat (first | go_big_quiet_skip | (go_big_quiet_want; go_big_quiet_op; go_big_quiet_on) | (go_big_quiet_want; go_big_quiet_op; apply Exists.intro; refine ⟨fun x => ?_, ?_⟩; (first | (go_at_call 38; exact calls_same x (cM _)) | (go_at_call 39; exact calls_below x (cH _))); go_big_quiet_on))
        refine wpQuiet_nil ?_
        intro _ hx
        obtain ⟨⟨w2, hb2⟩, rfl⟩ := hx
        rename_i w2
        have hbw2 := below_chain hb1 hb2
        clear cM cH
        go_wp2_with fail
        go_loopw [7] (fun i wr => ∃ k : Nat, k ≤ p ∧ i = .int .i64 (k : Int) ∧ (∀ j, j < k → bitF (lb s) (prN h j (8 * Z)) = true) ∧ Below w.heap.size w wr) (fun i _ => p - (intOf i).toNat)
        case atStart => exact ⟨0, Nat.zero_le _, rfl, fun j hj => by omega, hbw2⟩
        case round =>
          obtain ⟨k, hk, rfl, hall, hbr⟩ := hrel
          have Hall := Lib.hid hall
          clear hall
          by_cases hlt : k < p
          · have j1 : (k : Int) < p := by omega
            have hb8 : 0 < 8 * Z := by omega
            have ep := prB_nat h k (8 * Z) hb8
            have hbl := prN_lt h k hb8
            rw [show ((8 * Z : Nat) : Int) = 8 * (Z : Int) from by omega] at ep
            obtain ⟨b, hb⟩ : ∃ b, b = prN h k (8 * Z) := ⟨_, rfl⟩
            rw [← hb] at ep hbl
            have cP := fun w => ref_Probe h (k : Int) (8 * (Z : Int)) w hh (by omega) (by omega)
            rw [ep] at cP
            have Hb := Lib.hid hb
            clear hb ep
            obtain ⟨n, hn⟩ : ∃ n, n = b / 480 := ⟨_, rfl⟩
            obtain ⟨a9, ha9⟩ : ∃ a, a = (n + 1) * 64 := ⟨_, rfl⟩
            have e1 : (b : Int) / 480 = (n : Int) := by rw [hn]; simp
            have e2 : (64 : Int) + (n : Int) * 64 = (a9 : Int) := by omega
            have hraw := extract_raw s n a9 ha9
            have e3 : (0 : Int) ≤ (a9 : Int) := by omega
            have HN := Lib.hid hn
            have HA9 := Lib.hid ha9
            have b0 : (0 : Int) ≤ (b : Int) := by omega
            have a9b : (a9 : Int) ≤ 100000000 := by omega
            clear hn ha9
            have hnext : bitF (lb s) b = true → ∀ j, j < k + 1 → bitF (lb s) (prN h j (8 * Z)) = true := by
              intro h1 j hj
              by_cases hjk : j = k
              · rw [hjk, ← Hb.out]; exact h1
              · exact Hall.out j (by omega)
            have Hnext := Lib.hid hnext
            clear hnext
            by_cases hlen : (n + 2) * 64 ≤ s.size
            · obtain ⟨c9, hc9⟩ : ∃ c, c = a9 + 64 := ⟨_, rfl⟩
              have k0 : (a9 : Int) + 64 = (c9 : Int) := by omega
              have k1 : ¬ (s.size : Int) < (c9 : Int) := by have := HA9.out; omega
              have k2 : (c9 : Int) ≤ s.size := by omega
              have k3 : c9 ≤ s.size := by omega
              have k4 : (a9 : Int) ≤ c9 := by omega
              have k5 : a9 ≤ c9 := by omega
              have cO := fun w => ref_Open (s.extract a9 c9) w (by rw [ByteArray.size_extract]; omega)
              rw [← hc9] at hraw
              rw [hraw] at cO
              clear hc9
              rcases hoo : openOk (rawF (lb s) n) with _ | _
              · rw [hoo] at cO
                have hT := Hnext.out (bitF_none (by rw [← HN.out]; exact pageF_shut hoo))
                have HT := Lib.hid hT
                clear hT hoo hraw hlen
                go_wp2_with fail
                refine (cP _).mono ?_
                rintro e w' ⟨rfl, rfl⟩
                go_wp2_with fail
                refine (cO _).mono ?_
                rintro e w4 ⟨rfl, hb4⟩
                go_wp2
                go_roundw
                case rel => exact ⟨k + 1, by omega, by go_num, HT.out, below_chain hbr hb4⟩
                case measure => simp [intOf]; omega
              · rw [hoo] at cO
                have hpl := openA_len hoo
                rw [rawF_len (by rw [length_lb]; exact hlen)] at hpl
                have hbf := bitF_some (b := b) (by rw [← HN.out]; exact pageF_some (by rw [length_lb]; exact hlen) hoo)
                generalize openA (rawF (lb s) n) = P9 at hpl hbf cO
                have hq : b / 8 % 60 < P9.length := by omega
                have hq2 : (b % 480) / 8 = b / 8 % 60 := by omega
                have hr2 : (b % 480) % 8 = b % 8 := by omega
                have hbit9 := bitL_atP P9 (b % 480) (by rw [hq2, size_bs]; exact hq)
                simp only [hq2, hr2] at hbit9
                rw [hbit9] at hbf
                have l60 : P9.length = 60 := by omega
                have c1 : (b : Int) / 8 % 60 < 60 := by omega
                have c2 : (0 : Int) ≤ (b : Int) / 8 % 60 := by omega
                have c3 : (b : Int) % 8 ≤ 7 := by omega
                have c4 : (0 : Int) ≤ (b : Int) % 8 := by omega
                have c5 : (0 : Int) ≤ (b : Int) / 8 := by omega
                have hsz9 : b / 8 % 60 < (bs P9).size := by rw [size_bs]; exact hq
                have hw := bit_walk (bs P9)[b / 8 % 60].toNat (b % 8)
                rcases hbit : ((bs P9)[b / 8 % 60].toNat / 2 ^ (b % 8) % 2 == 1) with _ | _
                · rw [hbit] at hw hbf
                  have hF := mayF_no (L := lb s) (h := h) (i := k) Hok.out (by rw [← HP.out]; exact hlt) (by rw [← HZ.out, ← Hb.out]; exact hbf)
                  have HF := Lib.hid hF
                  clear hbf hbit9 hoo hraw hpl hr2 hlen hbl hF
                  go_wp2_with fail
                  refine (cP _).mono ?_
                  rintro e w' ⟨rfl, rfl⟩
                  go_wp2_with fail
                  refine (cO _).mono ?_
                  rintro e w4 ⟨rfl, hb4⟩
                  go_wp2
                  go_ret
                  exact ⟨by rw [HF.out]; rfl, below_chain hbr hb4⟩
                · rw [hbit] at hw hbf
                  have hT := Hnext.out hbf
                  have HT := Lib.hid hT
                  clear hbf hbit9 hoo hraw hpl hr2 hlen hbl hT
                  go_wp2_with fail
                  refine (cP _).mono ?_
                  rintro e w' ⟨rfl, rfl⟩
                  go_wp2_with fail
                  refine (cO _).mono ?_
                  rintro e w4 ⟨rfl, hb4⟩
                  go_wp2
                  go_roundw
                  case rel => exact ⟨k + 1, by omega, by go_num, HT.out, below_chain hbr hb4⟩
                  case measure => simp [intOf]; omega
            · have k1 : (s.size : Int) < (a9 : Int) + 64 := by have := HA9.out; omega
              have hT := Hnext.out (bitF_none (by rw [← HN.out]; exact pageF_none (by rw [length_lb]; exact hlen)))
              have HT := Lib.hid hT
              clear hT hraw
              go_wp2_with fail
              refine (cP _).mono ?_
              rintro e w' ⟨rfl, rfl⟩
              go_wp2
              go_roundw
              case rel => exact ⟨k + 1, by omega, by go_num, HT.out, hbr⟩
              case measure => simp [intOf]; omega
          · obtain rfl : k = p := by omega
            have j1 : ¬ (k : Int) < k := by omega
            have hT := mayF_yes (L := lb s) (h := h) (by rw [← HP.out, ← HZ.out]; exact Hall.out)
            have HT := Lib.hid hT
            clear hT
            go_wp2
            go_ret
            exact ⟨by rw [HT.out]; rfl, hbr⟩
      · have hno : okF (lb s) = false := okF_no (fun h9 => by rw [← HZ.out, ← HP.out] at h9; exact heq h9.2.2)
        have hx : ¬ s.extract 0 64 = bs (headP Z p) := fun h9 => heq (by rw [← Hz2.out, h9, lb_bs])
        have Hm := Lib.hid (mayF_not h hno)
        generalize bs (headP Z p) = Y at cH hx
        have hx2 : ((s.extract 0 64).toList == Y.toList) = false := by rw [beq_eq_false_iff_ne, Ne, toList_lb, toList_lb]; exact fun h9 => hx (by rw [← bs_lb (s.extract 0 64), h9, bs_lb])
        clear hno heq Hmay
        refine wp_region_below (by kernel_rfl) (by kernel_rfl) ?_
        repeat (first | go_big_quiet_skip | (go_big_quiet_want; go_big_quiet_op; go_big_quiet_on) | (go_big_quiet_want; go_big_quiet_op; apply Exists.intro; refine ⟨fun x => ?_, ?_⟩; (first | (go_at_call 38; exact calls_same x (cM _)) | (go_at_call 39; exact calls_below x (cH _))); go_big_quiet_on))
        refine wpQuiet_nil ?_
        intro _ hx
        obtain ⟨⟨w2, hb2⟩, rfl⟩ := hx
        clear cM cH
        go_wp2
        go_ret
        exact ⟨by rw [Hm.out]; rfl, below_chain hb1 hb2⟩
end Go.Proofs.Ytpoeginnoocenaa
