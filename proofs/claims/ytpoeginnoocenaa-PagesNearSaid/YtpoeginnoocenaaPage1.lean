/-
  PAGES: a filter's file.
-/
import Derived.Test.YtpoeginnoocenaaPage01
namespace Go.Proofs.Ytpoeginnoocenaa
open Go.RowKit
set_option linter.unusedVariables false

def pageRaw (L : List UInt8) (n : Nat) : List UInt8 := (L.drop (60 * n)).take 60
theorem pageRaw_len (L : List UInt8) (n : Nat) : (pageRaw L n).length ≤ 60 := by unfold pageRaw; rw [List.length_take]; omega
def pagesTo (L : List UInt8) (k : Nat) : List UInt8 := (List.range k).flatMap fun n => sealL (pageRaw L n)
theorem pagesTo_succ (L : List UInt8) (k : Nat) : pagesTo L (k + 1) = pagesTo L k ++ sealL (pageRaw L k) := by
  unfold pagesTo; rw [List.range_succ, List.flatMap_append]; simp
theorem sealL_len (l : List UInt8) : (sealL l).length = l.length + 4 := by unfold sealL; rw [List.length_append]; rfl
theorem pagesTo_len {L : List UInt8} {m : Nat} (h : L.length = 60 * m) : ∀ k, k ≤ m → (pagesTo L k).length = 64 * k := by
  intro k
  induction k with
  | zero => intro _; rfl
  | succ k ih =>
    intro hk
    rw [pagesTo_succ, List.length_append, ih (by omega), sealL_len]
    have : (pageRaw L k).length = 60 := by unfold pageRaw; simp; omega
    omega
def fileP (L : List UInt8) (probes : Int) : List UInt8 := if mayI L.length probes then headP L.length probes.toNat ++ pagesTo L (L.length / 60) else []
theorem fileP_no {L : List UInt8} {probes : Int} (h : mayI L.length probes = false) : fileP L probes = [] := by unfold fileP; rw [h]; rfl
theorem fileP_yes {L : List UInt8} {p m : Nat} (h : mayI L.length p = true) (hm : L.length = 60 * m) : fileP L (p : Int) = headP (60 * m) p ++ pagesTo L m := by
  unfold fileP
  rw [h, hm]
  simp
theorem extract_page (s : ByteArray) (k : Nat) : lb (s.extract (60 * k) (60 * k + 60)) = pageRaw (lb s) k := by
  rw [bs_extract, lb_bs]
  unfold pageRaw
  rw [show 60 * k + 60 - 60 * k = 60 by omega]

set_option maxHeartbeats 1000000 in
theorem pages_Put (s : ByteArray) (probes : Int) (w : World) (hs : s.size ≤ 9223372036854775000) (hp : -9223372036854775808 ≤ probes ∧ probes ≤ 9223372036854775807) :
    Calls Try.prog 22 #[.string s, .int .i64 probes] w fun e w' => e = .returned (.string (bs (fileP (lb s) probes))) ∧ Below w.heap.size w w' := by
  have cm := fun w => pages_may (s.size : Int) probes w (by omega) hp
  rcases hmay : mayI s.size probes with _ | _
  · have hf : fileP (lb s) probes = [] := fileP_no (by rw [length_lb]; exact hmay)
    rw [hmay] at cm
    have Hf := Lib.hid hf
    clear hf hmay
    go_enter Try.func22, Try.ntmps22
    go_wp2_with fail
    refine (cm _).mono ?_
    rintro e w1 ⟨rfl, rfl⟩
    go_wp2
    go_ret
    exact ⟨by rw [Hf.out]; rfl, Below.refl _ _⟩
  · obtain ⟨h1, h2, h3, h4, h5⟩ := (mayI_iff _ _).1 hmay
    obtain ⟨m, hm⟩ : ∃ m, s.size = 60 * m := ⟨s.size / 60, by omega⟩
    obtain ⟨p, rfl⟩ : ∃ p : Nat, probes = (p : Int) := ⟨probes.toNat, by omega⟩
    have hf := fileP_yes (L := lb s) (p := p) (m := m) (by rw [length_lb]; exact hmay) (by rw [length_lb]; exact hm)
    have hlen := pagesTo_len (L := lb s) (m := m) (by rw [length_lb]; exact hm)
    rw [hmay] at cm
    have ch := fun w => pages_head s.size p w (by omega) (by omega)
    have hhl := headP_len (60 * m) p
    rw [← hm] at hhl
    have hn1 : s.size ≤ 120000 := by omega
    have Hf := Lib.hid hf
    have Hlen := Lib.hid hlen
    have Hm := Lib.hid hm
    have Hhl := Lib.hid hhl
    have hms : m ≤ 2000 := by omega
    have hm1 : 1 ≤ m := by omega
    clear hf hlen hmay hhl h1 h2 h3 hm
    go_enter Try.func22, Try.ntmps22
    go_wp2_with fail
    refine (cm _).mono ?_
    rintro e w1 ⟨rfl, rfl⟩
    clear cm
    have hbu := Built.new w
    have hlit := (Below.refl w.heap.size w).alloc (Nat.le_refl _) (.cells #[.pointer none, .slice none 0 0] 66)
    go_wp2_with fail
    generalize w.alloc (.cells #[.pointer none, .slice none 0 0] 66) = w1 at hbu hlit ⊢
    obtain ⟨B, hB⟩ : ∃ B, B = w.heap.size := ⟨_, rfl⟩
    rw [← hB] at hbu ⊢
    have HB := Lib.hid hB
    have HBu := Lib.hid hbu
    clear hB hbu
    refine (ch _).mono ?_
    rintro e w2 ⟨rfl, hb2⟩
    clear ch
    have hbw2 := below_chain hlit hb2
    go_wp2_with fail
    refine (builder_WriteString B B [] _ w2 (HBu.out.next hb2) (by rw [size_bs, Hhl.out]; simp) (by rw [HB.out]; exact hbw2.size)).mono ?_
    rintro e w3 ⟨rfl, hbu3, hb3⟩
    rw [List.nil_append] at hbu3
    have hbw3 : Below w.heap.size w w3 := hbw2.trans (by rw [← HB.out]; exact hb3)
    have HBu3 := Lib.hid hbu3
    clear hbu3 HBu
    go_wp2_with fail
    go_loopw [6] (fun i wr => ∃ k : Nat, k ≤ m ∧ i = .int .i64 ((60 * k : Nat) : Int) ∧ Built wr B B (headP s.size p ++ pagesTo (lb s) k) ∧ Below w.heap.size w wr) (fun i _ => s.size - (intOf i).toNat)
    case atStart => exact ⟨0, Nat.zero_le _, rfl, by simpa [pagesTo, lb, bs] using HBu3.out, hbw3⟩
    case round =>
      obtain ⟨k, hk, rfl, hbu, hbr⟩ := hrel
      have HBu := Lib.hid hbu
      clear hbu
      by_cases hlt : k < m
      · have i1 : ((60 * k : Nat) : Int) < s.size := by have := Hm.out; omega
        have i2 : 60 * k < s.size := by have := Hm.out; omega
        have i3 : 60 * k + 60 ≤ s.size := by have := Hm.out; omega
        have i4 : ((60 * k : Nat) : Int) + 60 ≤ s.size := by omega
        have hpl := pageRaw_len (lb s) k
        have hl1 := Hlen.out k hk
        generalize hK : 60 * k = K at i1 i2 i3 i4 ⊢
        have HK := Lib.hid hK
        have hpg : lb (s.extract K (K + 60)) = pageRaw (lb s) k := by rw [← hK]; exact extract_page s k
        have hsz : (s.extract K (K + 60)).size ≤ 60 := by rw [ByteArray.size_extract]; omega
        have Hpg := Lib.hid hpg
        have Hsz := Lib.hid hsz
        have Hpl := Lib.hid (And.intro hpl hl1)
        clear hK hpg hsz hpl hl1
        go_wp2_with fail
        refine (sums_Seal _ _ (by have := Hsz.out; omega)).mono ?_
        rintro e w4 ⟨rfl, hb4⟩
        rw [Hpg.out]
        have hbw4 := below_chain hbr hb4
        go_wp2_with fail
        refine (builder_WriteString B B _ _ w4 (HBu.out.next hb4) (by have h1 := Hpl.out; have h2 := Hhl.out; rw [List.length_append, size_bs, sealL_len, h2, h1.2]; omega) (by rw [HB.out]; exact hbw4.size)).mono ?_
        rintro e w5 ⟨rfl, hbu5, hb5⟩
        have hbw5 : Below w.heap.size w w5 := hbw4.trans (by rw [← HB.out]; exact hb5)
        have HBu5 := Lib.hid hbu5
        clear hbu5
        go_wp2
        go_roundw
        case rel => exact ⟨k + 1, by omega, by rw [← HK.out]; congr 1, by have := HBu5.out; rw [List.append_assoc] at this; rw [pagesTo_succ]; exact this, hbw5⟩
        case measure => simp [intOf]; omega
      · obtain rfl : k = m := by omega
        have i1 : ¬ ((60 * k : Nat) : Int) < s.size := by have := Hm.out; omega
        generalize hK : 60 * k = K at i1 ⊢
        clear hK
        go_wp2_with fail
        refine (builder_String B B _ wr HBu.out (by rw [HB.out]; exact hbr.size)).mono ?_
        rintro e w5 ⟨rfl, hb5⟩
        have hbw5 : Below w.heap.size w w5 := hbr.trans (by rw [← HB.out]; exact hb5)
        go_wp2
        go_ret
        exact ⟨by rw [Hf.out, ← Hm.out]; rfl, hbw5⟩
set_option maxHeartbeats 1000000 in
theorem refP_Put (s : ByteArray) (probes : Int) (w : World) (hs : s.size ≤ 9223372036854775000) (hp : -9223372036854775808 ≤ probes ∧ probes ≤ 9223372036854775807) :
    Calls Try.prog 23 #[.string s, .int .i64 probes] w fun e w' => e = .returned (.string (bs (fileP (lb s) probes))) ∧ Below w.heap.size w w' := by
  have cm := fun w => refP_may (s.size : Int) probes w (by omega) hp
  rcases hmay : mayI s.size probes with _ | _
  · have hf : fileP (lb s) probes = [] := fileP_no (by rw [length_lb]; exact hmay)
    rw [hmay] at cm
    have Hf := Lib.hid hf
    clear hf hmay
    go_enter Try.func23, Try.ntmps23
    go_wp2_with fail
    refine (cm _).mono ?_
    rintro e w1 ⟨rfl, rfl⟩
    go_wp2
    go_ret
    exact ⟨by rw [Hf.out]; rfl, Below.refl _ _⟩
  · obtain ⟨h1, h2, h3, h4, h5⟩ := (mayI_iff _ _).1 hmay
    obtain ⟨m, hm⟩ : ∃ m, s.size = 60 * m := ⟨s.size / 60, by omega⟩
    obtain ⟨p, rfl⟩ : ∃ p : Nat, probes = (p : Int) := ⟨probes.toNat, by omega⟩
    have hf := fileP_yes (L := lb s) (p := p) (m := m) (by rw [length_lb]; exact hmay) (by rw [length_lb]; exact hm)
    have hlen := pagesTo_len (L := lb s) (m := m) (by rw [length_lb]; exact hm)
    rw [hmay] at cm
    have ch := fun w => refP_Head s.size p w (by omega) (by omega)
    have hhl := headP_len (60 * m) p
    rw [← hm] at hhl
    have hn1 : s.size ≤ 120000 := by omega
    have Hf := Lib.hid hf
    have Hlen := Lib.hid hlen
    have Hm := Lib.hid hm
    have Hhl := Lib.hid hhl
    have hms : m ≤ 2000 := by omega
    have hm1 : 1 ≤ m := by omega
    clear hf hlen hmay hhl h1 h2 h3 hm
    go_enter Try.func23, Try.ntmps23
    go_wp2_with fail
    refine (cm _).mono ?_
    rintro e w1 ⟨rfl, rfl⟩
    clear cm
    go_wp2_with fail
    refine (ch _).mono ?_
    rintro e w2 ⟨rfl, hb2⟩
    clear ch
    go_wp2_with fail
    go_loopw [5, 6] (fun t i wr => ∃ k : Nat, k ≤ m ∧ i = .int .i64 ((60 * k : Nat) : Int) ∧ t = .string (bs (headP s.size p ++ pagesTo (lb s) k)) ∧ Below w.heap.size w wr) (fun _ i _ => s.size - (intOf i).toNat)
    case atStart => exact ⟨0, Nat.zero_le _, rfl, by simp [pagesTo], hb2⟩
    case round =>
      obtain ⟨k, hk, rfl, rfl, hbr⟩ := hrel
      by_cases hlt : k < m
      · have i1 : ((60 * k : Nat) : Int) < s.size := by have := Hm.out; omega
        have i2 : 60 * k < s.size := by have := Hm.out; omega
        have i3 : 60 * k + 60 ≤ s.size := by have := Hm.out; omega
        have i4 : ((60 * k : Nat) : Int) + 60 ≤ s.size := by omega
        have hpl := pageRaw_len (lb s) k
        have hl1 := Hlen.out k hk
        have hl2 : (headP s.size p ++ pagesTo (lb s) k).length ≤ 200000 := by rw [List.length_append, Hhl.out, hl1]; omega
        have hl3 : (sealL (pageRaw (lb s) k)).length ≤ 64 := by rw [sealL_len]; omega
        have hsucc := pagesTo_succ (lb s) k
        have hap := List.append_assoc (headP s.size p) (pagesTo (lb s) k) (sealL (pageRaw (lb s) k))
        rw [← hsucc] at hap
        generalize headP s.size p ++ pagesTo (lb s) k = T at hl2 hap ⊢
        generalize hK : 60 * k = K at i1 i2 i3 i4 ⊢
        have HK := Lib.hid hK
        have hpg : lb (s.extract K (K + 60)) = pageRaw (lb s) k := by rw [← hK]; exact extract_page s k
        have hsz : (s.extract K (K + 60)).size ≤ 60 := by rw [ByteArray.size_extract]; omega
        have Hpg := Lib.hid hpg
        have Hsz := Lib.hid hsz
        clear hK hpg hsz hpl hl1 hsucc
        go_wp2_with fail
        refine (ref_Seal _ _ (by have := Hsz.out; omega)).mono ?_
        rintro e w4 ⟨rfl, hb4⟩
        rw [Hpg.out]
        generalize sealL (pageRaw (lb s) k) = S9 at hl3 hap ⊢
        have Hap := Lib.hid hap
        clear hap
        go_wp2
        go_roundw
        case rel => exact ⟨k + 1, by omega, by rw [← HK.out]; congr 1, by rw [bs_append, Hap.out], below_chain hbr hb4⟩
        case measure => simp [intOf]; omega
      · obtain rfl : k = m := by omega
        have i1 : ¬ ((60 * k : Nat) : Int) < s.size := by have := Hm.out; omega
        generalize hK : 60 * k = K at i1 ⊢
        clear hK
        go_wp2
        go_ret
        exact ⟨by rw [Hf.out, ← Hm.out]; rfl, hbr⟩
end Go.Proofs.Ytpoeginnoocenaa
