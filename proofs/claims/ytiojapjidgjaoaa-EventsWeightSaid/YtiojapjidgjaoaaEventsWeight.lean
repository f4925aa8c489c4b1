/-
  Rows.EventsWeightSaid: an event with another weight, by one bit, is another one, and has other bytes, eight of them at their end.
-/
import Derived.Test.YtiojapjidgjaoaaEventsTell
namespace Go.Proofs.Ytiojapjidgjaoaa
open Go.RowKit
set_option linter.unusedVariables false

theorem xor_pow_ne (n k : Nat) : n ^^^ 2 ^ k ≠ n := by
  intro h
  have h2 := congrArg (n ^^^ ·) h
  simp only [← Nat.xor_assoc, Nat.xor_self, Nat.zero_xor] at h2
  have := Nat.pow_pos (n := k) (show 0 < 2 by decide)
  omega
theorem be8_inj {a b : Nat} (ha : a < 18446744073709551616) (hb : b < 18446744073709551616) (h : be 8 a = be 8 b) : a = b := by
  rw [← getN_be8 a ha, ← getN_be8 b hb, h]

set_option maxHeartbeats 4000000 in
theorem EventsWeight_walk (v0 : Value) (a : Ev) (bit : Int) (w : World) (ha : RawIs v0 a) (hbit : 0 ≤ bit ∧ bit ≤ 255) :
    Calls Try.prog 4 #[v0, .int .u8 bit] w fun e w' => e = .returned (.bool true) ∧ Below w.heap.size w w' := by
  obtain ⟨rfl, oa⟩ := ha
  obtain ⟨b, rfl⟩ := Int.eq_ofNat_of_zero_le hbit.1
  have hb255 : b ≤ 255 := by have := hbit.2; omega
  clear hbit
  have ga := fun w => raw_Great a w oa
  obtain ⟨t, d, n⟩ := a
  have hn64 := oa.2.2
  simp only [] at hn64
  obtain ⟨k, hk⟩ : ∃ k, k = b % 64 := ⟨_, rfl⟩
  have hk64 : k < 64 := by omega
  have hk2 : (b : Int) % 64 = (k : Int) := by rw [hk]; rfl
  obtain ⟨m, hm⟩ : ∃ m, m = n ^^^ 2 ^ k := ⟨_, rfl⟩
  have hmn : m ≠ n := by rw [hm]; exact xor_pow_ne n k
  have hp64 : 2 ^ k < 2 ^ 64 := Nat.pow_lt_pow_right (by omega) hk64
  have hm64 : m < 18446744073709551616 := by rw [hm]; exact Nat.xor_lt_two_pow (n := 64) hn64 hp64
  have om : okV (t, d, m) := ⟨oa.1, oa.2.1, hm64⟩
  have ka := fun w => events_Check (t, d, n) w oa
  have kb := fun w => events_Check (t, d, m) w om
  have ya := fun w => events_Bytes (t, d, n) w oa
  have yb := fun w => events_Bytes (t, d, m) w om
  have sa := fun w => events_Same (t, d, n) (t, d, m) w oa om
  rw [decide_eq_false (show ¬ (t, d, n) = (t, d, m) by intro h; simp at h; exact hmn h.symm)] at sa
  have hkb : checkV (t, d, m) = checkV (t, d, n) := rfl
  have hbno : ∀ m, checkV (t, d, n) ≠ 0 → bytesV (t, d, m) = [] := fun m h => by unfold bytesV; rw [if_neg (show ¬ checkV (t, d, m) = 0 from h)]
  have hby : ∀ m, checkV (t, d, n) = 0 → bytesV (t, d, m) = (textL (lb t) ++ textL (lb d)) ++ be 8 m := fun m h => by unfold bytesV; rw [if_pos (show checkV (t, d, m) = 0 from h)]; unfold rawV; rw [List.append_assoc]
  have hpl : checkV (t, d, n) = 0 → (textL (lb t) ++ textL (lb d)).length ≤ 1000 := fun h => by
    obtain ⟨p1, p2, p3⟩ := check_parts h
    simp only [] at p1 p2 p3
    rw [List.length_append, textL_length _ (by rw [length_lb]; omega), textL_length _ (by rw [length_lb]; omega), length_lb, length_lb]; omega
  rw [hkb] at kb
  unfold rawC at ga ⊢
  unfold evC at ka kb ya yb sa
  simp only [] at ga ka kb ya yb sa ⊢
  generalize greatV (t, d, n) = g at ga
  have z0 := lit_below w (.cells #[.string t, .string d, .int .u64 (n : Nat)] 24)
  have R0 : Row (w.alloc (.cells #[.string t, .string d, .int .u64 (n : Nat)] 24)) w.heap.size 24 [.string t, .string d, .int .u64 (n : Nat)] := Row.new w #[.string t, .string d, .int .u64 (n : Nat)] _
  have hx : bits BinOp.xor IntKind.u64 (n : Int) (IntKind.u64.wrap (2 ^ k)) = (m : Int) := by
    have e : (2 : Int) ^ k = ((2 ^ k : Nat) : Int) := by simp
    rw [e]
    generalize (2 : Nat) ^ k = z at hp64 hm
    rw [IntKind.wrap_u64, Int.emod_eq_of_lt (by omega) (by omega), hm]
    exact u64_xor_nat n z hn64 hp64
  rcases g with _ | _
  · have Hyp := Lib.hid (And.intro hbno (And.intro hby hpl))
    have Hmn := Lib.hid hmn
    clear hbno hby hpl hkb hmn hm hk
    generalize checkV (t, d, n) = c at ka kb Hyp
    go_enter Try.func4, Try.ntmps4
    go_wp2_with fail
    refine (ga _).mono ?_
    rintro e w1 ⟨rfl, hb1⟩
    have R1 := R0.next hb1
    have p0 := R1.cell 0 (by simp)
    have p1 := R1.cell 1 (by simp)
    have p2 := R1.cell 2 (by simp)
    simp only [List.getElem_cons_zero, List.getElem_cons_succ] at p0 p1 p2
    have Hk := Lib.hid (And.intro ka (And.intro kb (And.intro ya (And.intro yb sa))))
    clear ka kb ya yb sa ga R0
    go_wp2_with fail
    have R02 : Row (w1.alloc (.cells #[.string t, .string d, .int .u64 (m : Nat)] 24)) w.heap.size 24 [.string t, .string d, .int .u64 (n : Nat)] := R1.alloc _
    have R12 : Row (w1.alloc (.cells #[.string t, .string d, .int .u64 (m : Nat)] 24)) w1.heap.size 24 [.string t, .string d, .int .u64 (m : Nat)] := Row.new w1 #[.string t, .string d, .int .u64 (m : Nat)] _
    have hb2 : Below w.heap.size w (w1.alloc (.cells #[.string t, .string d, .int .u64 (m : Nat)] 24)) := below_chain z0 (below_chain hb1 (lit_below w1 _))
    clear R1 p0 p1 p2 z0 hb1
    try simp only [hx]
    clear hx
    obtain ⟨G, hG⟩ : ∃ G, G = w.heap.size := ⟨_, rfl⟩
    obtain ⟨G', hG'⟩ : ∃ G, G = w1.heap.size := ⟨_, rfl⟩
    generalize (w1.alloc (.cells #[.string t, .string d, .int .u64 (m : Nat)] 24)) = w2 at R02 R12 hb2 ⊢
    rw [← hG'] at R12 ⊢
    rw [← hG] at R02 ⊢
    have p0 := R02.cell 0 (by simp)
    have p1 := R02.cell 1 (by simp)
    have p2 := R02.cell 2 (by simp)
    have q0 := R12.cell 0 (by simp)
    have q1 := R12.cell 1 (by simp)
    have q2 := R12.cell 2 (by simp)
    simp only [List.getElem_cons_zero, List.getElem_cons_succ] at p0 p1 p2 q0 q1 q2
    have lt1 := R12.lt
    have lt0 := R02.lt
    clear hG hG'
    have HS := Lib.hid (show ∀ w', Below w2.heap.size w2 w' → w'.cell? ⟨G, 0, none⟩ = some (.string t) ∧ w'.cell? ⟨G, 1, none⟩ = some (.string d) ∧ w'.cell? ⟨G, 2, none⟩ = some (.int .u64 (n : Nat)) ∧ w'.cell? ⟨G', 0, none⟩ = some (.string t) ∧ w'.cell? ⟨G', 1, none⟩ = some (.string d) ∧ w'.cell? ⟨G', 2, none⟩ = some (.int .u64 (m : Nat)) from fun w' hb =>
      ⟨(hb.cell (p := ⟨G, 0, none⟩) lt0).trans p0, (hb.cell (p := ⟨G, 1, none⟩) lt0).trans p1, (hb.cell (p := ⟨G, 2, none⟩) lt0).trans p2, (hb.cell (p := ⟨G', 0, none⟩) lt1).trans q0, (hb.cell (p := ⟨G', 1, none⟩) lt1).trans q1, (hb.cell (p := ⟨G', 2, none⟩) lt1).trans q2⟩)
    clear lt0 lt1 R02 R12
    apply wp_meetE2 (fun g g' w' => EvAt w' g (t, d, n) ∧ EvAt w' g' (t, d, m) ∧ Below w2.heap.size w2 w')
    · go_region_held3 (fun w' => w'.cell? ⟨G, 0, none⟩ = some (.string t) ∧ w'.cell? ⟨G, 1, none⟩ = some (.string d) ∧ w'.cell? ⟨G, 2, none⟩ = some (.int .u64 (n : Nat)) ∧ w'.cell? ⟨G', 0, none⟩ = some (.string t) ∧ w'.cell? ⟨G', 1, none⟩ = some (.string d) ∧ w'.cell? ⟨G', 2, none⟩ = some (.int .u64 (m : Nat))) ((refine HS.out _ ?_; repeat (first | exact Below.refl _ _ | refine Below.drew ?_ | refine bAlloc ?_ _ | refine bSet ?_ (by first | exact Nat.le_refl _ | exact Nat.le_add_right _ _) _)))
        (first | (go_at_call 16; with_reducible refine (raw_EventX t d n _).mono ?_; rintro e w' ⟨rfl, rfl⟩) | (go_at_call 16; with_reducible refine (raw_EventX t d m _).mono ?_; rintro e w' ⟨rfl, rfl⟩))
      all_goals first
        | (obtain ⟨g1, h1⟩ : ∃ g, g = w2.heap.size + 1 + 1 + 1 + 1 := ⟨_, rfl⟩; obtain ⟨g2, h2⟩ : ∃ g, g = w2.heap.size + 1 + 1 + 1 + 1 + 1 := ⟨_, rfl⟩; rw [← h2, ← h1]; exact ⟨rfl, g1, g2, rfl, by rw [h1]; exact ⟨by first | (simp; done) | (simp; omega), by simp [go_sem], by simp [go_sem], by simp [go_sem]⟩, by rw [h2]; exact ⟨by first | (simp; done) | (simp; omega), by simp [go_sem], by simp [go_sem], by simp [go_sem]⟩, by subst h1; subst h2; repeat (first | exact Below.refl _ _ | refine Below.drew ?_ | refine bAlloc ?_ _)⟩)
        | (obtain ⟨g1, h1⟩ : ∃ g, g = w2.heap.size + 1 + 1 + 1 + 1 + 1 := ⟨_, rfl⟩; obtain ⟨g2, h2⟩ : ∃ g, g = w2.heap.size + 1 + 1 + 1 + 1 := ⟨_, rfl⟩; rw [← h1, ← h2]; exact ⟨rfl, g1, g2, rfl, by rw [h1]; exact ⟨by first | (simp; done) | (simp; omega), by simp [go_sem], by simp [go_sem], by simp [go_sem]⟩, by rw [h2]; exact ⟨by first | (simp; done) | (simp; omega), by simp [go_sem], by simp [go_sem], by simp [go_sem]⟩, by subst h1; subst h2; repeat (first | exact Below.refl _ _ | refine Below.drew ?_ | refine bAlloc ?_ _)⟩)
        | (obtain ⟨g1, h1⟩ : ∃ g, g = w2.heap.size + 1 + 1 := ⟨_, rfl⟩; obtain ⟨g2, h2⟩ : ∃ g, g = w2.heap.size + 1 + 1 + 1 + 1 + 1 := ⟨_, rfl⟩; rw [← h2, ← h1]; exact ⟨rfl, g1, g2, rfl, by rw [h1]; exact ⟨by first | (simp; done) | (simp; omega), by simp [go_sem], by simp [go_sem], by simp [go_sem]⟩, by rw [h2]; exact ⟨by first | (simp; done) | (simp; omega), by simp [go_sem], by simp [go_sem], by simp [go_sem]⟩, by subst h1; subst h2; repeat (first | exact Below.refl _ _ | refine Below.drew ?_ | refine bAlloc ?_ _)⟩)
        | (obtain ⟨g1, h1⟩ : ∃ g, g = w2.heap.size + 1 + 1 := ⟨_, rfl⟩; obtain ⟨g2, h2⟩ : ∃ g, g = w2.heap.size + 1 + 1 + 1 := ⟨_, rfl⟩; rw [← h2, ← h1]; exact ⟨rfl, g1, g2, rfl, by rw [h1]; exact ⟨by first | (simp; done) | (simp; omega), by simp [go_sem], by simp [go_sem], by simp [go_sem]⟩, by rw [h2]; exact ⟨by first | (simp; done) | (simp; omega), by simp [go_sem], by simp [go_sem], by simp [go_sem]⟩, by subst h1; subst h2; repeat (first | exact Below.refl _ _ | refine Below.drew ?_ | refine bAlloc ?_ _)⟩)
        | (obtain ⟨g1, h1⟩ : ∃ g, g = w2.heap.size + 1 + 1 + 1 + 1 + 1 := ⟨_, rfl⟩; obtain ⟨g2, h2⟩ : ∃ g, g = w2.heap.size + 1 + 1 := ⟨_, rfl⟩; rw [← h1, ← h2]; exact ⟨rfl, g1, g2, rfl, by rw [h1]; exact ⟨by first | (simp; done) | (simp; omega), by simp [go_sem], by simp [go_sem], by simp [go_sem]⟩, by rw [h2]; exact ⟨by first | (simp; done) | (simp; omega), by simp [go_sem], by simp [go_sem], by simp [go_sem]⟩, by subst h1; subst h2; repeat (first | exact Below.refl _ _ | refine Below.drew ?_ | refine bAlloc ?_ _)⟩)
        | (obtain ⟨g1, h1⟩ : ∃ g, g = w2.heap.size + 1 + 1 + 1 := ⟨_, rfl⟩; obtain ⟨g2, h2⟩ : ∃ g, g = w2.heap.size + 1 + 1 := ⟨_, rfl⟩; rw [← h1, ← h2]; exact ⟨rfl, g1, g2, rfl, by rw [h1]; exact ⟨by first | (simp; done) | (simp; omega), by simp [go_sem], by simp [go_sem], by simp [go_sem]⟩, by rw [h2]; exact ⟨by first | (simp; done) | (simp; omega), by simp [go_sem], by simp [go_sem], by simp [go_sem]⟩, by subst h1; subst h2; repeat (first | exact Below.refl _ _ | refine Below.drew ?_ | refine bAlloc ?_ _)⟩)
        | (obtain ⟨g1, h1⟩ : ∃ g, g = w2.heap.size := ⟨_, rfl⟩; obtain ⟨g2, h2⟩ : ∃ g, g = w2.heap.size + 1 + 1 + 1 + 1 + 1 := ⟨_, rfl⟩; rw [← h2, ← h1]; exact ⟨rfl, g1, g2, rfl, by rw [h1]; exact ⟨by first | (simp; done) | (simp; omega), by simp [go_sem], by simp [go_sem], by simp [go_sem]⟩, by rw [h2]; exact ⟨by first | (simp; done) | (simp; omega), by simp [go_sem], by simp [go_sem], by simp [go_sem]⟩, by subst h1; subst h2; repeat (first | exact Below.refl _ _ | refine Below.drew ?_ | refine bAlloc ?_ _)⟩)
        | (obtain ⟨g1, h1⟩ : ∃ g, g = w2.heap.size := ⟨_, rfl⟩; obtain ⟨g2, h2⟩ : ∃ g, g = w2.heap.size + 1 + 1 + 1 := ⟨_, rfl⟩; rw [← h2, ← h1]; exact ⟨rfl, g1, g2, rfl, by rw [h1]; exact ⟨by first | (simp; done) | (simp; omega), by simp [go_sem], by simp [go_sem], by simp [go_sem]⟩, by rw [h2]; exact ⟨by first | (simp; done) | (simp; omega), by simp [go_sem], by simp [go_sem], by simp [go_sem]⟩, by subst h1; subst h2; repeat (first | exact Below.refl _ _ | refine Below.drew ?_ | refine bAlloc ?_ _)⟩)
        | (obtain ⟨g1, h1⟩ : ∃ g, g = w2.heap.size := ⟨_, rfl⟩; obtain ⟨g2, h2⟩ : ∃ g, g = w2.heap.size + 1 := ⟨_, rfl⟩; rw [← h2, ← h1]; exact ⟨rfl, g1, g2, rfl, by rw [h1]; exact ⟨by first | (simp; done) | (simp; omega), by simp [go_sem], by simp [go_sem], by simp [go_sem]⟩, by rw [h2]; exact ⟨by first | (simp; done) | (simp; omega), by simp [go_sem], by simp [go_sem], by simp [go_sem]⟩, by subst h1; subst h2; repeat (first | exact Below.refl _ _ | refine Below.drew ?_ | refine bAlloc ?_ _)⟩)
        | (obtain ⟨g1, h1⟩ : ∃ g, g = w2.heap.size + 1 + 1 + 1 + 1 + 1 := ⟨_, rfl⟩; obtain ⟨g2, h2⟩ : ∃ g, g = w2.heap.size := ⟨_, rfl⟩; rw [← h1, ← h2]; exact ⟨rfl, g1, g2, rfl, by rw [h1]; exact ⟨by first | (simp; done) | (simp; omega), by simp [go_sem], by simp [go_sem], by simp [go_sem]⟩, by rw [h2]; exact ⟨by first | (simp; done) | (simp; omega), by simp [go_sem], by simp [go_sem], by simp [go_sem]⟩, by subst h1; subst h2; repeat (first | exact Below.refl _ _ | refine Below.drew ?_ | refine bAlloc ?_ _)⟩)
        | (obtain ⟨g1, h1⟩ : ∃ g, g = w2.heap.size + 1 + 1 + 1 := ⟨_, rfl⟩; obtain ⟨g2, h2⟩ : ∃ g, g = w2.heap.size := ⟨_, rfl⟩; rw [← h1, ← h2]; exact ⟨rfl, g1, g2, rfl, by rw [h1]; exact ⟨by first | (simp; done) | (simp; omega), by simp [go_sem], by simp [go_sem], by simp [go_sem]⟩, by rw [h2]; exact ⟨by first | (simp; done) | (simp; omega), by simp [go_sem], by simp [go_sem], by simp [go_sem]⟩, by subst h1; subst h2; repeat (first | exact Below.refl _ _ | refine Below.drew ?_ | refine bAlloc ?_ _)⟩)
        | (obtain ⟨g1, h1⟩ : ∃ g, g = w2.heap.size + 1 := ⟨_, rfl⟩; obtain ⟨g2, h2⟩ : ∃ g, g = w2.heap.size := ⟨_, rfl⟩; rw [← h1, ← h2]; exact ⟨rfl, g1, g2, rfl, by rw [h1]; exact ⟨by first | (simp; done) | (simp; omega), by simp [go_sem], by simp [go_sem], by simp [go_sem]⟩, by rw [h2]; exact ⟨by first | (simp; done) | (simp; omega), by simp [go_sem], by simp [go_sem], by simp [go_sem]⟩, by subst h1; subst h2; repeat (first | exact Below.refl _ _ | refine Below.drew ?_ | refine bAlloc ?_ _)⟩)
    · rintro g g' w3 ⟨E1, E2, hb3⟩
      obtain ⟨ka, kb, ya, yb, sa⟩ := Hk.out
      obtain ⟨hbno, hby, hpl⟩ := Hyp.out
      have hc := fun x : Later w3 => E1.next x.ok
      have hd := fun x : Later w3 => E2.next x.ok
      have hc0 := fun x => (hc x).2.1
      have hc1 := fun x => (hc x).2.2.1
      have hc2 := fun x => (hc x).2.2.2
      have hd0 := fun x => (hd x).2.1
      have hd1 := fun x => (hd x).2.2.1
      have hd2 := fun x => (hd x).2.2.2
      have hB3 := below_more hb2 hb3 (by have := hb2.size; omega)
      clear hc hd HS Hk Hyp p0 p1 p2 q0 q1 q2 hb2 hb3
      have e1 : (c == c) = true := by simp
      have hh := law_happened
      by_cases hc0' : c = 0
      · have hpl := hpl hc0'
        rw [hby n hc0'] at ya
        rw [hby m hc0'] at yb
        generalize textL (lb t) ++ textL (lb d) = P at ya yb hpl
        obtain ⟨S, hS⟩ : ∃ S, S = P ++ be 8 n := ⟨_, rfl⟩
        obtain ⟨T, hT⟩ : ∃ T, T = P ++ be 8 m := ⟨_, rfl⟩
        have hSl : S.length = P.length + 8 := by rw [hS, List.length_append, be_length]
        have hTl : T.length = P.length + 8 := by rw [hT, List.length_append, be_length]
        obtain ⟨p, hp⟩ : ∃ p, p = P.length := ⟨_, rfl⟩
        have xS : (bs S).extract 0 p = bs P := by rw [bs_extract, lb_bs, List.drop_zero, Nat.sub_zero, hS, hp, List.take_left]
        have xT : (bs T).extract 0 p = bs P := by rw [bs_extract, lb_bs, List.drop_zero, Nat.sub_zero, hT, hp, List.take_left]
        have hST : (S == T) = false := by
          rw [beq_eq_false_iff_ne, hS, hT]
          intro h
          exact Hmn.out (be8_inj hm64 hn64 (List.append_cancel_left h).symm)
        have ePP : (P == P) = true := by simp
        rw [← hS] at ya
        rw [← hT] at yb
        rw [← hp] at hSl hTl hpl
        have HS := Lib.hid hS
        have HT := Lib.hid hT
        have HP := Lib.hid hp
        clear hS hT hp hby hbno
        subst hc0'
        have f1 : ((S.length : Int) == (T.length : Int)) = true := by rw [hSl, hTl]; simp
        have f2 : (8 : Int) ≤ S.length := by omega
        have f3 : (8 : Int) ≤ T.length := by omega
        have f2' : decide ((8 : Int) ≤ S.length) = true := decide_eq_true f2
        have f4 : (8 : Int) ≤ (p : Int) + 8 := by omega
        have f4' : decide ((8 : Int) ≤ (p : Int) + 8) = true := decide_eq_true f4
        have f5 : (p : Int) + 8 - 8 = p := by omega
        have f6 : IntKind.i64.wrap (p : Int) = p := by rw [IntKind.wrap_i64]; omega
        have f7 : IntKind.i64.wrap ((p : Int) + 8 - 8) = p := by rw [IntKind.wrap_i64]; omega
        go_wp2_with fail
        refine wp_region_below (by kernel_rfl) (by kernel_rfl) ?_
        repeat (first | go_big_quiet_skip | (go_big_quiet_want; go_big_quiet_op; go_big_quiet_on) | (go_big_quiet_want; go_big_quiet_op; apply Exists.intro; refine ⟨fun x => ?_, ?_⟩; (first | (go_at_call 19; with_reducible exact calls_below x (ya _)) | (go_at_call 19; with_reducible exact calls_below x (yb _))); go_big_quiet_on))
        refine wpQuiet_nil ?_
        intro _ hx
        obtain ⟨⟨w4, hb4⟩, rfl⟩ := hx
        rename_i w4
        clear hc0 hc1 hc2 hd0 hd1 hd2
        have E14 := E1.next hb4
        have E24 := E2.next hb4
        have hc := fun x : Later w4 => E14.next x.ok
        have hd := fun x : Later w4 => E24.next x.ok
        have hc0 := fun x => (hc x).2.1
        have hc1 := fun x => (hc x).2.2.1
        have hc2 := fun x => (hc x).2.2.2
        have hd0 := fun x => (hd x).2.1
        have hd1 := fun x => (hd x).2.2.1
        have hd2 := fun x => (hd x).2.2.2
        clear hc hd
        go_wp2_with fail
        refine wp_region_below (by kernel_rfl) (by kernel_rfl) ?_
        repeat (first | go_big_quiet_skip | (go_big_quiet_want; go_big_quiet_op; go_big_quiet_on) | (go_big_quiet_want; go_big_quiet_op; apply Exists.intro; refine ⟨fun x => ?_, ?_⟩; (first | (go_at_call 21; exact calls_below x (sa _)) | (go_at_call 17; with_reducible exact calls_below x (ka _)) | (go_at_call 17; with_reducible exact calls_below x (kb _))); go_big_quiet_on))
        refine wpQuiet_nil ?_
        intro _ hx
        obtain ⟨⟨w5, hb5⟩, rfl⟩ := hx
        rename_i w5
        obtain ⟨-, r0, r1, r2⟩ := E14.next hb5
        clear hc0 hc1 hc2 hd0 hd1 hd2
        go_wp2_with fail
        refine (ka _).mono ?_
        rintro e w6 ⟨rfl, hb6⟩
        clear ka kb sa ya yb
        go_wp2_with fail
        refine wp_region_below (by kernel_rfl) (by kernel_rfl) ?_
        repeat (first | go_big_quiet_skip | (go_big_quiet_want; go_big_quiet_op; go_big_quiet_on) | (go_big_quiet_want; go_big_quiet_op; apply Exists.intro; refine ⟨fun x => ?_, ?_⟩; (first | (go_at_call 15; exact calls_below x (hh _))); go_big_quiet_on))
        refine wpQuiet_nil ?_
        intro _ hx
        obtain ⟨⟨w7, hb7⟩, rfl⟩ := hx
        go_wp2
        go_ret
        exact ⟨rfl, below_more hB3 (below_chain hb4 (below_chain hb5 (below_chain hb6 hb7))) (by have := hB3.size; omega)⟩
      · have y1 := hbno n hc0'
        have y2 := hbno m hc0'
        rw [y1] at ya
        rw [y2] at yb
        clear y1 y2 hby hbno hpl
        go_wp2_with fail
        refine wp_region_below (by kernel_rfl) (by kernel_rfl) ?_
        repeat (first | go_big_quiet_skip | (go_big_quiet_want; go_big_quiet_op; go_big_quiet_on) | (go_big_quiet_want; go_big_quiet_op; apply Exists.intro; refine ⟨fun x => ?_, ?_⟩; (first | (go_at_call 19; with_reducible exact calls_below x (ya _)) | (go_at_call 19; with_reducible exact calls_below x (yb _))); go_big_quiet_on))
        refine wpQuiet_nil ?_
        intro _ hx
        obtain ⟨⟨w4, hb4⟩, rfl⟩ := hx
        rename_i w4
        clear hc0 hc1 hc2 hd0 hd1 hd2
        have E14 := E1.next hb4
        have E24 := E2.next hb4
        have hc := fun x : Later w4 => E14.next x.ok
        have hd := fun x : Later w4 => E24.next x.ok
        have hc0 := fun x => (hc x).2.1
        have hc1 := fun x => (hc x).2.2.1
        have hc2 := fun x => (hc x).2.2.2
        have hd0 := fun x => (hd x).2.1
        have hd1 := fun x => (hd x).2.2.1
        have hd2 := fun x => (hd x).2.2.2
        clear hc hd
        go_wp2_with fail
        refine wp_region_below (by kernel_rfl) (by kernel_rfl) ?_
        repeat (first | go_big_quiet_skip | (go_big_quiet_want; go_big_quiet_op; go_big_quiet_on) | (go_big_quiet_want; go_big_quiet_op; apply Exists.intro; refine ⟨fun x => ?_, ?_⟩; (first | (go_at_call 21; exact calls_below x (sa _)) | (go_at_call 17; with_reducible exact calls_below x (ka _)) | (go_at_call 17; with_reducible exact calls_below x (kb _))); go_big_quiet_on))
        refine wpQuiet_nil ?_
        intro _ hx
        obtain ⟨⟨w5, hb5⟩, rfl⟩ := hx
        rename_i w5
        obtain ⟨-, r0, r1, r2⟩ := E14.next hb5
        clear hc0 hc1 hc2 hd0 hd1 hd2
        go_wp2_with fail
        refine (ka _).mono ?_
        rintro e w6 ⟨rfl, hb6⟩
        go_wp2_with fail
        refine (law_happened _).mono ?_
        rintro e w7 ⟨rfl, hb7⟩
        go_wp2
        go_ret
        exact ⟨rfl, below_more hB3 (below_chain hb4 (below_chain hb5 (below_chain hb6 hb7))) (by have := hB3.size; omega)⟩
  · go_enter Try.func4, Try.ntmps4
    go_wp2_with fail
    refine (ga _).mono ?_
    rintro e w1 ⟨rfl, hb1⟩
    go_wp2_with fail
    refine (law_happened _).mono ?_
    rintro e w2 ⟨rfl, hb2⟩
    go_wp2
    go_ret
    exact ⟨rfl, below_chain z0 (below_chain hb1 hb2)⟩
end Go.Proofs.Ytiojapjidgjaoaa
