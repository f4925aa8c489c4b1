/-
  PAGES: plain words; which filters may be; a head page.
-/
import Derived.Test.YtpoeginnoocenaaShelfStr
import Derived.Test.YtpoeginnoocenaaSumsOpen
import Derived.Test.YtpoeginnoocenaaBloom1
namespace Go.Proofs.Ytpoeginnoocenaa
open Go.RowKit
set_option linter.unusedVariables false

def mayI (size probes : Int) : Bool := decide (60 ≤ size ∧ size ≤ 120000 ∧ size % 60 = 0 ∧ 1 ≤ probes ∧ probes ≤ 16)
theorem mayI_iff (size probes : Int) : mayI size probes = true ↔ 60 ≤ size ∧ size ≤ 120000 ∧ size % 60 = 0 ∧ 1 ≤ probes ∧ probes ≤ 16 := by unfold mayI; simp
theorem mayI_no {size probes : Int} (h : ¬ (60 ≤ size ∧ size ≤ 120000 ∧ size % 60 = 0 ∧ 1 ≤ probes ∧ probes ≤ 16)) : mayI size probes = false := by unfold mayI; simp only [decide_eq_false_iff_not]; exact h
def headRaw (size probes : Nat) : List UInt8 := [98, 108, 109] ++ putL probes 1 ++ putL size 4 ++ List.replicate 52 0
def headP (size probes : Nat) : List UInt8 := sealL (headRaw size probes)
theorem headRaw_len (size probes : Nat) : (headRaw size probes).length = 60 := by
  unfold headRaw putL
  simp
theorem headP_len (size probes : Nat) : (headP size probes).length = 64 := by
  unfold headP sealL
  rw [List.length_append, headRaw_len]; rfl

set_option maxHeartbeats 1000000 in
theorem pages_may (size probes : Int) (w : World) (hs : -9223372036854775808 ≤ size ∧ size ≤ 9223372036854775807) (hp : -9223372036854775808 ≤ probes ∧ probes ≤ 9223372036854775807) :
    Calls Try.prog 33 #[.int .i64 size, .int .i64 probes] w fun e w' => e = .returned (.bool (mayI size probes)) ∧ w = w' := by
  by_cases h1 : 0 < size
  · by_cases h2 : size ≤ 120000
    · have e60 : Int.tmod size 60 = size % 60 := Int.tmod_eq_emod_of_nonneg (by omega)
      by_cases h3 : size % 60 = 0
      · by_cases h4 : 1 ≤ probes
        · by_cases h5 : probes ≤ 16
          · have hm := (mayI_iff size probes).2 ⟨by omega, h2, h3, h4, h5⟩
            have Hm := Lib.hid hm
            clear hm
            go_enter Try.func33, Try.ntmps33
            go_wp2
            go_ret
            exact ⟨by rw [Hm.out]; rfl, rfl⟩
          · have hm := mayI_no (size := size) (probes := probes) (by omega)
            have Hm := Lib.hid hm
            clear hm
            go_enter Try.func33, Try.ntmps33
            go_wp2
            go_ret
            exact ⟨by rw [Hm.out]; rfl, rfl⟩
        · have hm := mayI_no (size := size) (probes := probes) (by omega)
          have Hm := Lib.hid hm
          clear hm
          go_enter Try.func33, Try.ntmps33
          go_wp2
          go_ret
          exact ⟨by rw [Hm.out]; rfl, rfl⟩
      · have hm := mayI_no (size := size) (probes := probes) (by omega)
        have Hm := Lib.hid hm
        have h3b : (size % 60 == 0) = false := by simpa using h3
        clear hm
        go_enter Try.func33, Try.ntmps33
        go_wp2
        go_ret
        exact ⟨by rw [Hm.out]; rfl, rfl⟩
    · have hm := mayI_no (size := size) (probes := probes) (by omega)
      have Hm := Lib.hid hm
      clear hm
      go_enter Try.func33, Try.ntmps33
      go_wp2
      go_ret
      exact ⟨by rw [Hm.out]; rfl, rfl⟩
  · have hm := mayI_no (size := size) (probes := probes) (by omega)
    have Hm := Lib.hid hm
    clear hm
    go_enter Try.func33, Try.ntmps33
    go_wp2
    go_ret
    exact ⟨by rw [Hm.out]; rfl, rfl⟩
set_option maxHeartbeats 1000000 in
theorem refP_may (size probes : Int) (w : World) (hs : -9223372036854775808 ≤ size ∧ size ≤ 9223372036854775807) (hp : -9223372036854775808 ≤ probes ∧ probes ≤ 9223372036854775807) :
    Calls Try.prog 38 #[.int .i64 size, .int .i64 probes] w fun e w' => e = .returned (.bool (mayI size probes)) ∧ w = w' := by
  by_cases h1 : 60 ≤ size
  · by_cases h2 : size ≤ 120000
    · have e60 : Int.tmod size 60 = size % 60 := Int.tmod_eq_emod_of_nonneg (by omega)
      by_cases h3 : size % 60 = 0
      · by_cases h4 : 1 ≤ probes
        · by_cases h5 : probes ≤ 16
          · have hm := (mayI_iff size probes).2 ⟨by omega, h2, h3, h4, h5⟩
            have Hm := Lib.hid hm
            clear hm
            go_enter Try.func38, Try.ntmps38
            go_wp2
            go_ret
            exact ⟨by rw [Hm.out]; rfl, rfl⟩
          · have hm := mayI_no (size := size) (probes := probes) (by omega)
            have Hm := Lib.hid hm
            clear hm
            go_enter Try.func38, Try.ntmps38
            go_wp2
            go_ret
            exact ⟨by rw [Hm.out]; rfl, rfl⟩
        · have hm := mayI_no (size := size) (probes := probes) (by omega)
          have Hm := Lib.hid hm
          clear hm
          go_enter Try.func38, Try.ntmps38
          go_wp2
          go_ret
          exact ⟨by rw [Hm.out]; rfl, rfl⟩
      · have hm := mayI_no (size := size) (probes := probes) (by omega)
        have Hm := Lib.hid hm
        have h3b : (size % 60 == 0) = false := by simpa using h3
        clear hm
        go_enter Try.func38, Try.ntmps38
        go_wp2
        go_ret
        exact ⟨by rw [Hm.out]; rfl, rfl⟩
    · have hm := mayI_no (size := size) (probes := probes) (by omega)
      have Hm := Lib.hid hm
      clear hm
      go_enter Try.func38, Try.ntmps38
      go_wp2
      go_ret
      exact ⟨by rw [Hm.out]; rfl, rfl⟩
  · have hm := mayI_no (size := size) (probes := probes) (by omega)
    have Hm := Lib.hid hm
    clear hm
    go_enter Try.func38, Try.ntmps38
    go_wp2
    go_ret
    exact ⟨by rw [Hm.out]; rfl, rfl⟩
theorem repeatL_zero (c : Nat) : Lib.repeatL [0] c = List.replicate c 0 := by
  induction c with
  | zero => rfl
  | succ c ih => unfold Lib.repeatL; rw [ih]; rfl
theorem rep52 (w : World) : Calls Try.prog 50 #[.string ⟨#[0]⟩, .int .i64 52] w fun e w' => e = .returned (.string (bs (List.replicate 52 0))) ∧ Below w.heap.size w w' := by
  have h := strings_Repeat ⟨#[0]⟩ 52 w (by omega) (by decide)
  have e : Lib.repeatL ({ data := #[0] } : ByteArray).data.toList 52 = List.replicate 52 0 := repeatL_zero 52
  rw [e] at h
  exact h
set_option maxHeartbeats 1000000 in
theorem pages_head (size probes : Nat) (w : World) (hs : size ≤ 120000) (hp : probes ≤ 16) :
    Calls Try.prog 35 #[.int .i64 (size : Int), .int .i64 (probes : Int)] w fun e w' => e = .returned (.string (bs (headP size probes))) ∧ Below w.heap.size w w' := by
  have c1 := fun w => nums_Put (probes : Int) 1 w (by omega) (by omega)
  have c2 := fun w => nums_Put (size : Int) 4 w (by omega) (by omega)
  simp only [Int.toNat_natCast] at c1 c2
  have l1 : (putL probes 1).length = 1 := by unfold putL; simp
  have l2 : (putL size 4).length = 4 := by unfold putL; simp
  have hh : headP size probes = sealL ([98, 108, 109] ++ putL probes 1 ++ putL size 4 ++ List.replicate 52 0) := rfl
  have p0 : (0 : Int) ≤ probes := by omega
  have s0 : (0 : Int) ≤ size := by omega
  have p1 : (probes : Int) ≤ 16 := by omega
  have s1 : (size : Int) ≤ 120000 := by omega
  generalize putL probes 1 = P1 at c1 l1 hh
  generalize putL size 4 = P2 at c2 l2 hh
  have Hh := Lib.hid hh
  clear hh
  go_enter Try.func35, Try.ntmps35
  go_wp2_with fail
  refine (c1 _).mono ?_
  rintro e w1 ⟨rfl, hb1⟩
  go_wp2_with fail
  refine (c2 _).mono ?_
  rintro e w2 ⟨rfl, hb2⟩
  go_wp2_with fail
  refine (rep52 _).mono ?_
  rintro e w3 ⟨rfl, hb3⟩
  have hz : (List.replicate 52 (0 : UInt8)).length = 52 := rfl
  have hZ : List.replicate 52 (0 : UInt8) = List.replicate 52 0 := rfl
  generalize List.replicate 52 (0 : UInt8) = Z at hz Hh ⊢
  clear hZ
  go_wp2_with fail
  refine (sums_Seal _ _ ?_).mono ?_
  · have h3 : ({ data := #[98, 108, 109] } : ByteArray).size = 3 := rfl
    simp only [ByteArray.size_append, size_bs, l1, l2, hz, h3]
    omega
  rintro e w4 ⟨rfl, hb4⟩
  have hlb : lb (({ data := #[98, 108, 109] } : ByteArray) ++ bs P1 ++ bs P2 ++ bs Z) = [98, 108, 109] ++ P1 ++ P2 ++ Z := by simp [lb, bs]
  go_wp2
  go_ret
  exact ⟨by rw [Hh.out]; simp, below_chain hb1 (below_chain hb2 (below_chain hb3 hb4))⟩
end Go.Proofs.Ytpoeginnoocenaa
