/-
  The batches' law's own examples hold.
-/
import Derived.Test.YtiojapjidgjaoaaBatGet
import Derived.Test.YtiojapjidgjaoaaBatPut
import Derived.Test.YtiojapjidgjaoaaBat2
import Derived.Test.YtiojapjidgjaoaaLawAll
namespace Go.Proofs.Ytiojapjidgjaoaa
open Go.RowKit
set_option linter.unusedVariables false

def exE : Ev := (⟨#[97]⟩, ⟨#[98, 99]⟩, 0)
def exB : Bat := (⟨#[115]⟩, 1, [exE])
theorem exB_check : checkB exB = 0 := by decide +kernel
theorem exB_ok : okB exB := ⟨by show (1 : Nat) ≤ _; decide, by decide, by intro e he; simp [exB] at he; subst he; exact ⟨by show (1 : Nat) ≤ _; decide, by show (2 : Nat) ≤ _; decide, by show (0 : Nat) < _; decide⟩⟩
theorem exB_put : putB exB = [0, 1, 115, 0, 0, 0, 0, 0, 0, 0, 1, 1, 0, 1, 97, 0, 2, 98, 99, 0, 0, 0, 0, 0, 0, 0, 0] := by decide +kernel
theorem ex_PutB (v : Value) (w : World) (h : BatV w v exB) :
    Calls Try.prog 31 #[v] w fun e w' => e = .returned (.tuple #[.string (bs [0, 1, 115, 0, 0, 0, 0, 0, 0, 0, 1, 1, 0, 1, 97, 0, 2, 98, 99, 0, 0, 0, 0, 0, 0, 0, 0]), .int .i64 0]) ∧ Below w.heap.size w w' := by
  have := batches_Put v exB w h
  rw [exB_put, exB_check] at this
  exact this
theorem ex_GetB (s x : ByteArray) (f : Int) (l : List Ev) (m : Nat) (n : Int) (w : World) (hs : s.size ≤ 1000000000) (h1 : batE (lb s) = n) (h2 : batV (lb s) = (x, f, l)) (hm : l.length = m) :
    Calls Try.prog 37 #[.string s] w fun e w' => ∃ A c, e = .returned (.tuple #[.agg #[.string x, .int .i64 f, .slice A m c], .int .i64 n]) ∧ BatV w' (.agg #[.string x, .int .i64 f, .slice A m c]) (x, f, l) ∧ Below w.heap.size w w' := by
  refine (batches_Get s w hs).mono ?_
  rintro e w' ⟨v, rfl, hv, hb⟩
  rw [h1]
  rw [h2] at hv
  subst hm
  obtain ⟨A, c, rfl, -⟩ := id hv
  exact ⟨A, c, rfl, hv, hb⟩
theorem ex_CheckB (v : Value) (b : Bat) (n : Int) (w : World) (h : BatV w v b) (h1 : checkB b = n) :
    Calls Try.prog 33 #[v] w fun e w' => e = .returned (.int .i64 n) ∧ Below w.heap.size w w' := by rw [← h1]; exact batches_Check v b w h
theorem ex_SameB (v v' : Value) (b b' : Bat) (o : Bool) (w : World) (h : BatV w v b) (h' : BatV w v' b') (h1 : decide (b = b') = o) :
    Calls Try.prog 35 #[v, v'] w fun e w' => e = .returned (.bool o) ∧ Below w.heap.size w w' := by rw [← h1]; exact batches_Same v v' b b' w h h'
/-- n times the example, in a block of its own. -/
theorem lit_many (w : World) (n : Nat) (hn : n ≤ 100) : Evs (w.alloc (.cells ⟨(List.replicate n exE).flatMap evL⟩ 28)) (.slice (some ⟨w.heap.size, 0, none⟩) n n) (List.replicate n exE) := by
  refine ⟨?_, ?_⟩
  · have := Reads.of_row (Row.new w ⟨(List.replicate n exE).flatMap evL⟩ 28) (size := 3) (n := n) (cap := n) (by rw [flatMap_len evL 3 evL_len]; simp) (Nat.le_refl _) (by unfold maxLen; omega)
    rw [List.length_replicate]
    exact this
  · intro e he
    rw [List.eq_of_mem_replicate he]
    exact exB_ok.2.2 _ (by simp [exB])

theorem exB_at (w W1 : World) (g : Nat) (hg : W1.heap.size = g) (hb : Below w.heap.size w W1) (f : Int) (n : Nat) (hn : n ≤ 100) (hf : -9223372036854775808 ≤ f ∧ f ≤ 9223372036854775807) : BatV (W1.alloc (.cells ⟨(List.replicate n exE).flatMap evL⟩ 28)) (.agg #[.string ⟨#[115]⟩, .int .i64 f, .slice (some ⟨g, 0, none⟩) n n]) (⟨#[115]⟩, f, List.replicate n exE) := by
  subst hg
  have h := lit_many W1 n hn
  refine ⟨some ⟨W1.heap.size, 0, none⟩, n, by simp, by simpa using h, by show (1 : Nat) ≤ _; decide, hf⟩
theorem BatV.with {w : World} {s : ByteArray} {f f' : Int} {A : Option Addr} {n c : Nat} {l : List Ev} (h : BatV w (.agg #[.string s, .int .i64 f, .slice A n c]) (s, f, l)) (hf : -9223372036854775808 ≤ f' ∧ f' ≤ 9223372036854775807) : BatV w (.agg #[.string s, .int .i64 f', .slice A n c]) (s, f', l) := by
  obtain ⟨A', c', h1, h2, h3, -⟩ := h
  simp only [Value.agg.injEq] at h1
  have h4 := congrArg (fun a : Array Value => a[2]?) h1
  have h5 : Value.slice A n c = .slice A' l.length c' := by simpa using h4
  rw [h5]
  exact ⟨A', c', rfl, h2, h3, hf⟩
set_option maxHeartbeats 2000000 in
theorem law_batched (w : World) :
    Calls Try.prog 29 #[] w fun e w' => e = .returned (.bool true) ∧ Below w.heap.size w w' := by
  have b1 := lit_below w (.cells #[.string ⟨#[97]⟩, .string ⟨#[98, 99]⟩, .float .f64 0] 28)
  have r1 := Row.new w #[.string ⟨#[97]⟩, .string ⟨#[98, 99]⟩, .float .f64 0] 28
  have hw1 : (w.alloc (.cells #[.string ⟨#[97]⟩, .string ⟨#[98, 99]⟩, .float .f64 0] 28)).heap.size = w.heap.size + 1 := by simp
  have hV := (exB_at w (w.alloc (.cells #[.string ⟨#[97]⟩, .string ⟨#[98, 99]⟩, .float .f64 0] 28)) (w.heap.size + 1) hw1 b1 1 1 (by omega) (by omega))
  have b2 := (b1.alloc b1.size (.cells #[.string ⟨#[97]⟩, .string ⟨#[98, 99]⟩, .float .f64 0] 28)).alloc (by simp; omega) (.cells #[.string ⟨#[115]⟩, .int .i64 1, .slice (some ⟨w.heap.size + 1, 0, none⟩) 1 1] 49)
  have hV2 := hV.next (lit_below ((w.alloc (.cells #[.string ⟨#[97]⟩, .string ⟨#[98, 99]⟩, .float .f64 0] 28)).alloc (.cells #[.string ⟨#[97]⟩, .string ⟨#[98, 99]⟩, .float .f64 0] 28)) (.cells #[.string ⟨#[115]⟩, .int .i64 1, .slice (some ⟨w.heap.size + 1, 0, none⟩) 1 1] 49))
  have R1 := (r1.alloc (.cells #[.string ⟨#[97]⟩, .string ⟨#[98, 99]⟩, .float .f64 0] 28)).alloc (.cells #[.string ⟨#[115]⟩, .int .i64 1, .slice (some ⟨w.heap.size + 1, 0, none⟩) 1 1] 49)
  have R2 := Row.new ((w.alloc (.cells #[.string ⟨#[97]⟩, .string ⟨#[98, 99]⟩, .float .f64 0] 28)).alloc (.cells #[.string ⟨#[97]⟩, .string ⟨#[98, 99]⟩, .float .f64 0] 28)) #[.string ⟨#[115]⟩, .int .i64 1, .slice (some ⟨w.heap.size + 1, 0, none⟩) 1 1] 49
  have hw2 : ((w.alloc (.cells #[.string ⟨#[97]⟩, .string ⟨#[98, 99]⟩, .float .f64 0] 28)).alloc (.cells #[.string ⟨#[97]⟩, .string ⟨#[98, 99]⟩, .float .f64 0] 28)).heap.size = w.heap.size + 1 + 1 := by simp
  rw [hw2] at R2
  clear hV r1 b1 hw1 hw2
  go_enter Try.func29, Try.ntmps29
  go_wp2_with fail
  generalize ((w.alloc (.cells #[.string ⟨#[97]⟩, .string ⟨#[98, 99]⟩, .float .f64 0] 28)).alloc (.cells #[.string ⟨#[97]⟩, .string ⟨#[98, 99]⟩, .float .f64 0] 28)).alloc (.cells #[.string ⟨#[115]⟩, .int .i64 1, .slice (some ⟨w.heap.size + 1, 0, none⟩) 1 1] 49) = W at b2 hV2 R1 R2 ⊢
  refine (ex_PutB _ _ hV2).mono ?_
  rintro e w1 ⟨rfl, hb1⟩
  go_wp2_with fail
  refine (ex_GetB _ ⟨#[115]⟩ 1 [exE] 1 0 _ (by rw [size_bs]; decide) (by rw [lb_bs]; decide +kernel) (by rw [lb_bs]; decide +kernel) rfl).mono ?_
  rintro e w2 ⟨A, c, rfl, hv2, hb2⟩
  have r5 := Row.new w2 #[.string ⟨#[115]⟩, .int .i64 1, .slice A 1 c] 49
  have z2 := lit_below w2 (.cells #[.string ⟨#[115]⟩, .int .i64 1, .slice A 1 c] 49)
  go_wp2_with fail
  refine (ex_GetB _ ByteArray.empty 0 [] 0 10 _ (by decide) (by decide +kernel) (by decide +kernel) rfl).mono ?_
  rintro e w3 ⟨A3, c3, rfl, -, hb3⟩
  have z3 := lit_below w3 (.cells #[.string ByteArray.empty, .int .i64 0, .slice A3 0 c3] 49)
  go_wp2_with fail
  refine (ex_GetB _ ByteArray.empty 0 [] 0 10 _ (by decide +kernel) (by decide +kernel) (by decide +kernel) rfl).mono ?_
  rintro e w4 ⟨A4, c4, rfl, -, hb4⟩
  have z4 := lit_below w4 (.cells #[.string ByteArray.empty, .int .i64 0, .slice A4 0 c4] 49)
  have hb14 := below_chain hb2 (below_chain z2 (below_chain hb3 (below_chain z3 (below_chain hb4 z4))))
  have hbW4 := below_chain hb1 hb14
  have hb24 := below_chain hb3 (below_chain z3 (below_chain hb4 z4))
  have hs4 : (w4.alloc (.cells #[.string ByteArray.empty, .int .i64 0, .slice A4 0 c4] 49)).heap.size = w4.heap.size + 1 := by simp
  have hv9 := exB_at w4 (w4.alloc (.cells #[.string ByteArray.empty, .int .i64 0, .slice A4 0 c4] 49)) _ hs4 z4 0 9 (by omega) (by omega)
  have z5 := lit_below (w4.alloc (.cells #[.string ByteArray.empty, .int .i64 0, .slice A4 0 c4] 49)) (.cells ⟨(List.replicate 9 exE).flatMap evL⟩ 28)
  have z6 := lit_below ((w4.alloc (.cells #[.string ByteArray.empty, .int .i64 0, .slice A4 0 c4] 49)).alloc (.cells ⟨(List.replicate 9 exE).flatMap evL⟩ 28)) (.cells #[.string ⟨#[115]⟩, .int .i64 0, .slice (some ⟨w4.heap.size + 1, 0, none⟩) 9 9] 49)
  have r11 := Row.new ((w4.alloc (.cells #[.string ByteArray.empty, .int .i64 0, .slice A4 0 c4] 49)).alloc (.cells ⟨(List.replicate 9 exE).flatMap evL⟩ 28)) #[.string ⟨#[115]⟩, .int .i64 0, .slice (some ⟨w4.heap.size + 1, 0, none⟩) 9 9] 49
  have hs5 : ((w4.alloc (.cells #[.string ByteArray.empty, .int .i64 0, .slice A4 0 c4] 49)).alloc (.cells ⟨(List.replicate 9 exE).flatMap evL⟩ 28)).heap.size = w4.heap.size + 1 + 1 := by simp
  rw [hs5] at r11
  have hbt := below_chain hbW4 (below_chain z5 z6)
  obtain ⟨x0, x1, x2, -, -, -⟩ := row_agg (R1.next hbW4)
  have R1' := R1.next hbt
  have R2' := R2.next hbt
  have r5' := r5.next (below_chain hb24 (below_chain z5 z6))
  have hv9' := hv9.next z6
  have hv2' := hv2.next (below_chain z2 (below_chain hb24 (below_chain z5 z6)))
  have hV2' := hV2.next hbt
  have hbF := below_chain b2 hbt
  have he9 : (List.replicate 9 exE).flatMap evL = [.string ⟨#[97]⟩, .string ⟨#[98, 99]⟩, .float .f64 0, .string ⟨#[97]⟩, .string ⟨#[98, 99]⟩, .float .f64 0, .string ⟨#[97]⟩, .string ⟨#[98, 99]⟩, .float .f64 0, .string ⟨#[97]⟩, .string ⟨#[98, 99]⟩, .float .f64 0, .string ⟨#[97]⟩, .string ⟨#[98, 99]⟩, .float .f64 0, .string ⟨#[97]⟩, .string ⟨#[98, 99]⟩, .float .f64 0, .string ⟨#[97]⟩, .string ⟨#[98, 99]⟩, .float .f64 0, .string ⟨#[97]⟩, .string ⟨#[98, 99]⟩, .float .f64 0, .string ⟨#[97]⟩, .string ⟨#[98, 99]⟩, .float .f64 0] := rfl
  rw [he9] at R1' R2' r5' hv9' hv2' hV2' hbF r11
  obtain ⟨y0, y1, y2, -, -, -⟩ := row_agg R2'
  obtain ⟨e0, e1, e2, -, -, -⟩ := row_agg r5'
  obtain ⟨f0, f1, f2, -, -, -⟩ := row_agg r11
  clear R1 R2 r5 hv9 hv2 hV2 hbt hb1 hb2 hb3 hb4 z2 z3 z4 hb14 hbW4 hb24 hs4 hs5 z5 z6 b2 he9
  go_wp2_with fail
  generalize ((w4.alloc (.cells #[.string ByteArray.empty, .int .i64 0, .slice A4 0 c4] 49)).alloc (.cells ⟨[.string ⟨#[97]⟩, .string ⟨#[98, 99]⟩, .float .f64 0, .string ⟨#[97]⟩, .string ⟨#[98, 99]⟩, .float .f64 0, .string ⟨#[97]⟩, .string ⟨#[98, 99]⟩, .float .f64 0, .string ⟨#[97]⟩, .string ⟨#[98, 99]⟩, .float .f64 0, .string ⟨#[97]⟩, .string ⟨#[98, 99]⟩, .float .f64 0, .string ⟨#[97]⟩, .string ⟨#[98, 99]⟩, .float .f64 0, .string ⟨#[97]⟩, .string ⟨#[98, 99]⟩, .float .f64 0, .string ⟨#[97]⟩, .string ⟨#[98, 99]⟩, .float .f64 0, .string ⟨#[97]⟩, .string ⟨#[98, 99]⟩, .float .f64 0]⟩ 28)).alloc (.cells #[.string ⟨#[115]⟩, .int .i64 0, .slice (some ⟨w4.heap.size + 1, 0, none⟩) 9 9] 49) = W6 at *
  refine (ex_SameB _ _ (⟨#[115]⟩, 1, List.replicate 1 exE) (⟨#[115]⟩, 1, [exE]) true _ hV2' hv2' (by decide +kernel)).mono ?_
  rintro e w5 ⟨rfl, hb5⟩
  clear x0 x1 x2 e0 e1 e2 r5' R1'
  have R2' := R2'.next hb5
  have r11 := r11.next hb5
  clear y0 y1 y2 f0 f1 f2
  obtain ⟨y0, y1, y2, -, -, -⟩ := row_agg R2'
  obtain ⟨f0, f1, f2, -, -, -⟩ := row_agg r11
  go_wp2_with fail
  refine (ex_CheckB _ (⟨#[115]⟩, 0, []) 2 _ ⟨none, 0, rfl, ⟨Reads.nil _ _, by simp⟩, by show (1 : Nat) ≤ _; decide, by decide, by decide⟩ (by decide +kernel)).mono ?_
  rintro e w6 ⟨rfl, hb6⟩
  have R2' := R2'.next hb6
  have r11 := r11.next hb6
  clear y0 y1 y2 f0 f1 f2
  obtain ⟨y0, y1, y2, -, -, -⟩ := row_agg R2'
  obtain ⟨f0, f1, f2, -, -, -⟩ := row_agg r11
  go_wp2_with fail
  refine (ex_CheckB _ _ 3 _ (hv9'.next (below_chain hb5 hb6)) (by decide +kernel)).mono ?_
  rintro e w7 ⟨rfl, hb7⟩
  have R2' := R2'.next hb7
  have r11 := r11.next hb7
  clear y0 y1 y2 f0 f1 f2
  obtain ⟨y0, y1, y2, -, -, -⟩ := row_agg R2'
  obtain ⟨f0, f1, f2, -, -, -⟩ := row_agg r11
  go_wp2_with fail
  refine (ex_CheckB _ _ 2 _ ((hV2'.next (below_chain hb5 (below_chain hb6 hb7))).with (f' := -1) (by omega)) (by decide +kernel)).mono ?_
  rintro e w8 ⟨rfl, hb8⟩
  have R2' := R2'.next hb8
  have r11 := r11.next hb8
  clear y0 y1 y2 f0 f1 f2
  obtain ⟨y0, y1, y2, -, -, -⟩ := row_agg R2'
  obtain ⟨f0, f1, f2, -, -, -⟩ := row_agg r11
  go_wp2_with fail
  refine (ex_CheckB _ _ 2 _ ((hV2'.next (below_chain hb5 (below_chain hb6 (below_chain hb7 hb8)))).with (f' := 1073741824) (by omega)) (by decide +kernel)).mono ?_
  rintro e w9 ⟨rfl, hb9⟩
  go_wp2
  go_ret
  exact ⟨rfl, below_chain hbF (below_chain hb5 (below_chain hb6 (below_chain hb7 (below_chain hb8 hb9))))⟩
end Go.Proofs.Ytiojapjidgjaoaa
