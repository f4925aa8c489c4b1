/-
  The chunks' law's own examples hold.
-/
import Derived.Test.YtjcdkekmploelaaFits
namespace Go.Proofs.Ytjcdkekmploelaa
open Go.RowKit
set_option linter.unusedVariables false

def exHL : List UInt8 := [99, 104, 110, 107, 0, 0, 0, 3, 127, 3, 10, 198]
def exH : ByteArray := ⟨#[99, 104, 110, 107, 0, 0, 0, 3, 127, 3, 10, 198]⟩
def exC : ByteArray := exH ++ exR
theorem lb_exH : lb exH = exHL := rfl
theorem exH_size : exH.size = 12 := rfl
theorem lb_exC : lb exC = exHL ++ exRL := rfl
theorem exC_size : exC.size = 26 := rfl
theorem lb_exCt : lb (exC.extract 0 25) = (exHL ++ exRL).take 25 := by rw [bs_extract, lb_bs, lb_exC]; rfl
theorem exCt_size : (exC.extract 0 25).size = 25 := by rw [← length_lb, lb_exCt]; rfl
theorem ex_Head (w : World) :
    Calls Try.prog 28 #[.int .i64 3] w fun e w' => e = .returned (.string exH) ∧ Below w.heap.size w w' := by
  have c := chunks_Head 3 w (by decide)
  rw [show headL 3 = exHL from by decide +kernel] at c
  exact c
theorem ex_told (s : ByteArray) (L : List UInt8) (n : Int) (v : Value) (l : List Nat) (k : Nat) (o : Bool) (w : World) (hl : lb s = L) (hs : s.size ≤ 1000000000000) (hn : -9223372036854775808 ≤ n ∧ n ≤ 9223372036854775807) (hv : Reads w v 1 l.length (natsC l))
    (h1 : cAt L n = l) (h2 : cEnd L n = k) (h3 : cOk L n = o) :
    Calls Try.prog 42 #[.string s, .int .i64 n, v, .int .i64 k, .bool o] w fun e w' => e = .returned (.bool true) ∧ Below w.heap.size w w' := by
  subst hl; exact law_told s n v l k o w hs hn hv h1 h2 h3
theorem ex_told1 (w : World) : Calls Try.prog 42 #[.string exC, .int .i64 3, .slice (some ⟨w.heap.size, 0, none⟩) 1 1, .int .i64 26, .bool true] (w.alloc (.cells #[.int .i64 12] 3)) fun e w' => e = .returned (.bool true) ∧ Below w.heap.size w w' :=
  (ex_told _ _ _ _ [12] 26 true _ lb_exC (by rw [exC_size]; decide) (by decide) (reads_lit w _ _ 1 rfl (by decide)) (by decide +kernel) (by decide +kernel) (by decide +kernel)).mono fun e w' ⟨h1, h2⟩ => ⟨h1, below_chain (below_lit w _) h2⟩
theorem ex_told2 (w : World) : Calls Try.prog 42 #[.string (exC.extract 0 25), .int .i64 3, .slice none 0 0, .int .i64 12, .bool true] w fun e w' => e = .returned (.bool true) ∧ Below w.heap.size w w' :=
  ex_told _ _ _ _ [] 12 true _ lb_exCt (by rw [exCt_size]; decide) (by decide) (Reads.nil _ _) (by decide +kernel) (by decide +kernel) (by decide +kernel)
theorem ex_told3 (w : World) : Calls Try.prog 42 #[.string exH, .int .i64 4, .slice none 0 0, .int .i64 0, .bool false] w fun e w' => e = .returned (.bool true) ∧ Below w.heap.size w w' :=
  ex_told _ _ _ _ [] 0 false _ lb_exH (by rw [exH_size]; decide) (by decide) (Reads.nil _ _) (by decide +kernel) (by decide +kernel) (by decide +kernel)
theorem ex_told4 (w : World) : Calls Try.prog 42 #[.string ⟨#[99, 104, 110]⟩, .int .i64 3, .slice none 0 0, .int .i64 0, .bool true] w fun e w' => e = .returned (.bool true) ∧ Below w.heap.size w w' :=
  ex_told _ [99, 104, 110] _ _ [] 0 true _ rfl (by decide) (by decide) (Reads.nil _ _) (by decide +kernel) (by decide +kernel) (by decide +kernel)
theorem ex_told5 (w : World) : Calls Try.prog 42 #[.string ⟨#[99, 104, 120]⟩, .int .i64 3, .slice none 0 0, .int .i64 0, .bool false] w fun e w' => e = .returned (.bool true) ∧ Below w.heap.size w w' :=
  ex_told _ [99, 104, 120] _ _ [] 0 false _ rfl (by decide) (by decide) (Reads.nil _ _) (by decide +kernel) (by decide +kernel) (by decide +kernel)
theorem ex_told6 (w : World) : Calls Try.prog 42 #[.string ⟨#[]⟩, .int .i64 3, .slice none 0 0, .int .i64 0, .bool true] w fun e w' => e = .returned (.bool true) ∧ Below w.heap.size w w' :=
  ex_told _ [] _ _ [] 0 true _ rfl (by decide) (by decide) (Reads.nil _ _) (by decide +kernel) (by decide +kernel) (by decide +kernel)
theorem ex_Fits (n : Int) (s : ByteArray) (k : Nat) (b : Bool) (w : World) (hn : -9223372036854775808 ≤ n ∧ n ≤ 9223372036854775807) (hs : s.size = k) (hk : k ≤ 1000000) (h : fitsB n k = b) :
    Calls Try.prog 30 #[.int .i64 n, .string s] w fun e w' => e = .returned (.bool b) ∧ w = w' := by
  have c := chunks_Fits n s w hn (by unfold maxLen; omega)
  rw [hs, h] at c
  exact c

theorem cellsB_zero (n : Nat) : zeroB n = cellsB (List.replicate n 0) := by simp [cellsB, zeroB]
theorem conv_made {w : World} {base g n cap : Nat} (hown : w.ownsRow base 5 1 (.slice (some ⟨g, 0, none⟩) n cap) n (madeCells (Value.int .u8 0).cells (n * 1)).toList) :
    (convert 42 9 (.slice (some ⟨g, 0, none⟩) n cap)).run Try.prog w = .ok (.string (bs (List.replicate n 0))) w := by
  have hrow := Row.of_own hown
  rw [made_bytes, cellsB_zero] at hrow
  exact Row.conv hrow (by simp) Try.underlying42 Try.underlying5 Try.underlying9
theorem zeros_exists (n : Nat) : ∃ Z : List UInt8, Z = List.replicate n 0 ∧ Z.length = n := ⟨_, rfl, List.length_replicate⟩

set_option maxHeartbeats 1000000 in
theorem law_chunked (w : World) :
    Calls Try.prog 25 #[] w fun e w' => e = .returned (.bool true) ∧ Below w.heap.size w w' := by
  have s1 := exR_size
  have s2 := exH_size
  have s3 := exC_size
  obtain ⟨i0, hi0, hz0, hz1, hz2⟩ := info_parts infoByte
  go_enter Try.func25, Try.ntmps25
  go_wp2_with fail
  refine (ex_recPut _).mono ?_
  rintro e w1 ⟨rfl, hb1⟩
  go_wp2_with fail
  refine (ex_Head _).mono ?_
  rintro e w2 ⟨rfl, hb2⟩
  obtain ⟨Z, hZ, hZl⟩ := zeros_exists 2001
  have t1 : (bs Z).size = 2001 := by rw [size_bs]; exact hZl
  have t2 : ((bs Z).extract 0 2000).size = 2000 := by rw [bs_extract, size_bs, lb_bs]; simp [hZl]
  have HZ := Lib.hid hZ
  clear hZ
  go_wp2_with (at_make; refine wpList_make_full _ rfl _ _ 42 rfl w.heap.size 5 i0 _ 1 Try.underlying42 hi0 hz0 hz1 .i64 .i64 2001 2001 2001 rfl rfl rfl rfl (by rw [hz2]; omega) (by unfold maxLen; omega) (Nat.le_trans hb1.size hb2.size) ?_; intro w3 hown hg3; have hcv := conv_made hown; rw [← HZ.out] at hcv; have hb3 : Below w2.heap.size w2 w3 := (Below.refl _ _).grown hg3 (Nat.le_refl _) (by simp); clear hown)
  have T1 := Lib.hid t1
  have T2 := Lib.hid t2
  clear t2
  go_wp2_with fail
  refine (ex_told1 _).mono ?_
  rintro e w4 ⟨rfl, hb4⟩
  go_wp2_with fail
  refine (ex_told2 _).mono ?_
  rintro e w5 ⟨rfl, hb5⟩
  go_wp2_with fail
  refine (ex_Head _).mono ?_
  rintro e w6 ⟨rfl, hb6⟩
  go_wp2_with fail
  refine (ex_told3 _).mono ?_
  rintro e w7 ⟨rfl, hb7⟩
  go_wp2_with fail
  refine (ex_told4 _).mono ?_
  rintro e w8 ⟨rfl, hb8⟩
  go_wp2_with fail
  refine (ex_told5 _).mono ?_
  rintro e w9 ⟨rfl, hb9⟩
  go_wp2_with fail
  refine (ex_told6 _).mono ?_
  rintro e w10 ⟨rfl, hb10⟩
  go_wp2_with fail
  refine (ex_Fits 4084 _ 0 true _ (by decide) rfl (by decide) (by decide)).mono ?_
  rintro e w' ⟨rfl, rfl⟩
  go_wp2_with fail
  refine (ex_Fits 4085 _ 0 false _ (by decide) rfl (by decide) (by decide)).mono ?_
  rintro e w' ⟨rfl, rfl⟩
  go_wp2_with fail
  refine (ex_Fits 0 _ 2001 false _ (by decide) T1.out (by decide) (by decide)).mono ?_
  rintro e w' ⟨rfl, rfl⟩
  go_wp2_with fail
  refine (ex_Fits 0 _ 2000 true _ (by decide) T2.out (by decide) (by decide)).mono ?_
  rintro e w' ⟨rfl, rfl⟩
  go_wp2
  go_ret
  refine ⟨rfl, ?_⟩
  repeat (first | assumption | exact Below.refl _ _ | (refine below_chain (by assumption) ?_))
end Go.Proofs.Ytjcdkekmploelaa
