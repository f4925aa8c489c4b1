/-
  PAGES: the reference's head page.
-/
import Derived.Test.YtpoeginnoocenaaPage0
import Derived.Test.YtpoeginnoocenaaMade
import Derived.Deep.RegionHeldLaw
import Derived.Deep.RegionHeld3
namespace Go.Proofs.Ytpoeginnoocenaa
open Go.RowKit
set_option linter.unusedVariables false

theorem wp_meetH {P : Program} {c : Code} {Q : Exit → Act → World → Prop} {a : Act} {w : World} (R : World → Prop) (A : Nat → Nat → Act) (h1 : c.wp P (fun e a' w' => e = .normal ∧ ∃ x y, a' = A x y ∧ R w') a w) (h2 : ∀ x y w', R w' → Q .normal (A x y) w') : c.wp P Q a w :=
  Code.wp_mono (fun e a' w' h => by obtain ⟨rfl, x, y, rfl, h⟩ := h; exact h2 x y w' h) h1
theorem made52 : (madeCells #[Value.int .u8 0] 52).toList = cellsB (List.replicate 52 0) := by
  have := made_bytes 52
  simp only [Nat.mul_one, Value.cells] at this
  rw [this]; simp [cellsB, zeroB]
theorem make52 (w : World) : (Instr.makeSlice 34 (.int .i64 52) (.int .i64 52)).run Try.prog w = .ok (.slice (some ⟨w.heap.size, 0, none⟩) 52 52) (w.alloc (.cells (madeCells #[Value.int .u8 0] 52) 5)) :=
  run_make_row' 34 5 (.int .u8 0) 1 Try.underlying34 infoByteAll rfl .i64 .i64 52 (by omega) (by omega) w
def z52 : List UInt8 := List.replicate 52 0
@[simp, go_sem] theorem length_z52 : z52.length = 52 := rfl
theorem made52z : (madeCells #[Value.int .u8 0] 52).toList = cellsB z52 := made52
theorem cell1 (n : Nat) (hn : n < 256) : (#[Value.int .u8 (n : Int)] : Array Value).toList = cellsB [UInt8.ofNat n] := by
  have : (UInt8.ofNat n).toNat = n := by simp; omega
  simp [cellsB, this]
theorem rowB (w : World) (n : Nat) (hn : n < 256) : Row (w.alloc (.cells #[.int .u8 (n : Int)] 5)) w.heap.size 5 (cellsB [UInt8.ofNat n]) := by
  have h := Row.new w #[.int .u8 (n : Int)] 5
  rw [cell1 n hn] at h; exact h
theorem rowZ (w : World) : Row (w.alloc (.cells (madeCells #[Value.int .u8 0] 52) 5)) w.heap.size 5 (cellsB (z52)) := by
  have h := Row.new w (madeCells #[Value.int .u8 0] 52) 5
  rw [made52z] at h; exact h
theorem rowB1 (w : World) (o : Obj) (n : Nat) (hn : n < 256) : Row ((w.alloc o).alloc (.cells #[.int .u8 (n : Int)] 5)) (w.heap.size + 1) 5 (cellsB [UInt8.ofNat n]) := by
  have h := rowB (w.alloc o) n hn
  rw [World.size_alloc] at h; exact h
theorem rowZ1 (w : World) (o : Obj) : Row ((w.alloc o).alloc (.cells (madeCells #[Value.int .u8 0] 52) 5)) (w.heap.size + 1) 5 (cellsB (z52)) := by
  have h := rowZ (w.alloc o)
  rw [World.size_alloc] at h; exact h
theorem cvB {W : World} {g n : Nat} (h : Row W g 5 (cellsB [UInt8.ofNat n])) : (convert 34 9 (.slice (some ⟨g, 0, none⟩) 1 1)).run Try.prog W = .ok (.string (bs [UInt8.ofNat n])) W := Row.conv h (by simp) Try.underlying34 Try.underlying5 Try.underlying9
theorem cvZ {W : World} {g : Nat} (h : Row W g 5 (cellsB (z52))) : (convert 34 9 (.slice (some ⟨g, 0, none⟩) 52 52)).run Try.prog W = .ok (.string (bs (z52))) W := Row.conv h (by simp) Try.underlying34 Try.underlying5 Try.underlying9
theorem afterB {w W : World} {n : Nat} (hn : n < 256) (hb : Below (w.alloc (.cells #[.int .u8 (n : Int)] 5)).drew.heap.size (w.alloc (.cells #[.int .u8 (n : Int)] 5)).drew W) : (convert 34 9 (.slice (some ⟨w.heap.size, 0, none⟩) 1 1)).run Try.prog W = .ok (.string (bs [UInt8.ofNat n])) W ∧ ∀ o, (convert 34 9 (.slice (some ⟨w.heap.size, 0, none⟩) 1 1)).run Try.prog (W.alloc o) = .ok (.string (bs [UInt8.ofNat n])) (W.alloc o) :=
  have h := Row.next (rowB w n hn).drew hb
  ⟨cvB h, fun o => cvB (h.alloc o)⟩
theorem afterZ {w W : World} (hb : Below (w.alloc (.cells (madeCells #[Value.int .u8 0] 52) 5)).drew.heap.size (w.alloc (.cells (madeCells #[Value.int .u8 0] 52) 5)).drew W) : (convert 34 9 (.slice (some ⟨w.heap.size, 0, none⟩) 52 52)).run Try.prog W = .ok (.string (bs (z52))) W ∧ ∀ o, (convert 34 9 (.slice (some ⟨w.heap.size, 0, none⟩) 52 52)).run Try.prog (W.alloc o) = .ok (.string (bs (z52))) (W.alloc o) :=
  have h := Row.next (rowZ w).drew hb
  ⟨cvZ h, fun o => cvZ (h.alloc o)⟩
theorem afterBZ {w W : World} {n : Nat} (hn : n < 256) (hb : Below ((w.alloc (.cells #[.int .u8 (n : Int)] 5)).alloc (.cells (madeCells #[Value.int .u8 0] 52) 5)).drew.heap.size ((w.alloc (.cells #[.int .u8 (n : Int)] 5)).alloc (.cells (madeCells #[Value.int .u8 0] 52) 5)).drew W) : (convert 34 9 (.slice (some ⟨w.heap.size, 0, none⟩) 1 1)).run Try.prog W = .ok (.string (bs [UInt8.ofNat n])) W ∧ (convert 34 9 (.slice (some ⟨w.heap.size + 1, 0, none⟩) 52 52)).run Try.prog W = .ok (.string (bs (z52))) W :=
  ⟨cvB (Row.next ((rowB w n hn).alloc _).drew hb), cvZ (Row.next (rowZ1 w _).drew hb)⟩
theorem afterZB {w W : World} {n : Nat} (hn : n < 256) (hb : Below ((w.alloc (.cells (madeCells #[Value.int .u8 0] 52) 5)).alloc (.cells #[.int .u8 (n : Int)] 5)).drew.heap.size ((w.alloc (.cells (madeCells #[Value.int .u8 0] 52) 5)).alloc (.cells #[.int .u8 (n : Int)] 5)).drew W) : (convert 34 9 (.slice (some ⟨w.heap.size + 1, 0, none⟩) 1 1)).run Try.prog W = .ok (.string (bs [UInt8.ofNat n])) W ∧ (convert 34 9 (.slice (some ⟨w.heap.size, 0, none⟩) 52 52)).run Try.prog W = .ok (.string (bs (z52))) W :=
  ⟨cvB (Row.next (rowB1 w _ n hn).drew hb), cvZ (Row.next ((rowZ w).alloc _).drew hb)⟩
theorem with_convH {p q : Prop} (h : p) (k : p → q) : q := k h
theorem bAllocH {a w : World} (h : Below a.heap.size a w) (o : Obj) : Below a.heap.size a (w.alloc o) := h.alloc h.size o
theorem lb_headB (a : UInt8) (P : List UInt8) : lb (({ data := #[98, 108, 109] } : ByteArray) ++ bs [a] ++ bs P ++ bs z52) = [98, 108, 109] ++ [a] ++ P ++ z52 := by simp [lb, bs]
theorem size_headB (a : UInt8) (P : List UInt8) (h : P.length = 4) : (({ data := #[98, 108, 109] } : ByteArray) ++ bs [a] ++ bs P ++ bs (z52)).size ≤ 1000 := by
  have h3 : ({ data := #[98, 108, 109] } : ByteArray).size = 3 := rfl
  simp only [ByteArray.size_append, size_bs, h, h3, length_z52, List.length_singleton]
  omega
set_option maxHeartbeats 4000000 in
theorem refP_Head (size probes : Nat) (w : World) (hs : size ≤ 120000) (hp : probes ≤ 16) :
    Calls Try.prog 39 #[.int .i64 (size : Int), .int .i64 (probes : Int)] w fun e w' => e = .returned (.string (bs (headP size probes))) ∧ Below w.heap.size w w' := by
  have c2 := fun w => ref_Put (size : Int) 4 w (by omega) (by omega)
  simp only [Int.toNat_natCast] at c2
  have l2 : (putL size 4).length = 4 := by unfold putL; simp
  have l1 : (putL probes 1) = [UInt8.ofNat probes] := by
    have e : putL probes 1 = be 1 probes := by unfold putL; rw [if_neg (by omega)]; rfl
    rw [e]
    have h3 : UInt8.ofNat (probes % 256) = UInt8.ofNat probes := by
      apply UInt8.toNat_inj.1
      simp
    simp [be]
    exact h3
  have hh : headP size probes = sealL ([98, 108, 109] ++ putL probes 1 ++ putL size 4 ++ z52) := rfl
  rw [l1] at hh
  have p0 : (0 : Int) ≤ probes := by omega
  have s0 : (0 : Int) ≤ size := by omega
  have p1 : (probes : Int) ≤ 16 := by omega
  have s1 : (size : Int) ≤ 120000 := by omega
  have n9 : probes < 256 := by omega
  have r1 := fun w => cvB (rowB w probes n9)
  have r1d := fun w => cvB (rowB w probes n9).drew
  have r2 := fun w o => cvB ((rowB w probes n9).alloc o)
  have r2d := fun w o => cvB ((rowB w probes n9).alloc o).drew
  have r3 := fun w o => cvB (rowB1 w o probes n9)
  have r3d := fun w o => cvB (rowB1 w o probes n9).drew
  have r4 := fun w => cvZ (rowZ w)
  have r4d := fun w => cvZ (rowZ w).drew
  have r5 := fun w o => cvZ ((rowZ w).alloc o)
  have r5d := fun w o => cvZ ((rowZ w).alloc o).drew
  have r6 := fun w o => cvZ (rowZ1 w o)
  have r6d := fun w o => cvZ (rowZ1 w o).drew
  generalize putL size 4 = P2 at c2 l2 hh
  have Hh := Lib.hid hh
  have hmk := make52
  clear hh l1
  have cS := fun (T : ByteArray) w (hT : T.size ≤ 1000) => ref_Seal T w (by omega)
  have u3 : IntKind.u8.wrap (probes : Int) = (probes : Int) := by rw [IntKind.wrap_u8]; omega
  have u1 : IntKind.u64.wrap (size : Int) = (size : Int) := by rw [IntKind.wrap_u64]; omega
  have D0 : Below w.heap.size w w.drew := (Below.refl _ _).drew
  go_enter Try.func39, Try.ntmps39
  go_wp2_with fail
  refine wp_region_noPanic ?_
  go_region_held_law (fun _ => True) (trivial)
    (first
      | (go_at_call 40; refine (cS _ _ (size_headB _ _ l2)).mono ?_; rintro e wS ⟨rfl, hbS⟩)
      | (go_at_call 51; refine (c2 _).mono ?_; rintro e wP ⟨rfl, hbP⟩; first | (with_reducible refine with_convH (afterBZ n9 hbP) ?_; rintro ⟨v1, v2⟩) | (with_reducible refine with_convH (afterZB n9 hbP) ?_; rintro ⟨v1, v2⟩) | (with_reducible refine with_convH (afterB n9 hbP) ?_; rintro ⟨v1, v2⟩) | (with_reducible refine with_convH (afterZ hbP) ?_; rintro ⟨v1, v2⟩) | skip))
  all_goals (refine NoPanic.normal ?_)
  all_goals go_wp2
  all_goals go_ret
  all_goals (refine ⟨?_, ?_⟩)
  all_goals first
    | (rw [Hh.out, ← lb_headB]; rfl)
    | (repeat (first | exact Below.refl _ _ | assumption | (with_reducible refine Below.drew ?_) | (with_reducible refine bAllocH ?_ _) | (with_reducible refine below_chain ?_ (by with_reducible assumption))))
end Go.Proofs.Ytpoeginnoocenaa
