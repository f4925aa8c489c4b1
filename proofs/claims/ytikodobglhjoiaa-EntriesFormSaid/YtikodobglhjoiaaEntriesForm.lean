/-
  Rows.EntriesFormSaid: what is got of 24 bytes is put as these; there is nothing else.
-/
import Derived.Test.YtikodobglhjoiaaOpenEnt
import Derived.Test.YtikodobglhjoiaaOpenArr
import Derived.Test.YtikodobglhjoiaaEntered
import Derived.Test.YtikodobglhjoiaaEntPlain
namespace Go.Proofs.Ytikodobglhjoiaa
open Go.RowKit Go.ChangeShapes Go.WideShapes
set_option linter.unusedVariables false

theorem cells_u8f : Try.prog.cellsOf 5 = 1 := by kernel_rfl
theorem cells_24 : Try.prog.cellsOf 44 = 24 := by kernel_rfl
def Arr24 (v : Value) (l : List UInt8) : Prop := v = .agg (cellsB l).toArray ∧ l.length = 24
theorem open_24uint8 {H : Type} {enc : TypeId × Value → H} {W : World} {base : Nat} {v : Value} {d : DataW H} {p : List MemPlace} (hval : Value.okWide Try.prog W .any base 44 v) (h : DataW.Trod enc Try.prog W 0 (fun _ => true) true 44 v d p) :
    ∃ a, Arr24 v a := by
  obtain ⟨l, h1, h2, -⟩ := open_arr Try.underlying44 cells_u8f cells_24 (fun b : UInt8 => Value.int .u8 b.toNat) (fun _ => True) (fun m c y h => by
    obtain ⟨x, e, -, hw⟩ := DataW.trod_int Try.underlying5 h
    simp at e
    have hb := bounds_u8 hw
    refine ⟨UInt8.ofNat x.toNat, trivial, ?_⟩
    have e2 : (UInt8.ofNat x.toNat).toNat = x.toNat := by simp; omega
    rw [e, e2]; congr 1; omega) hval h
  exact ⟨l, h1, h2⟩
theorem conv_any {P : Program} {w : World} {g n cap : Nat} {e e' src dst : TypeId} {l : List UInt8} (h : Row w g e' (cellsB l)) (hn : l.length = n)
    (hs : P.underlying src = some (.slice e)) (he : P.underlying e = some (.int .u8)) (hd : P.underlying dst = some .string) :
    (convert src dst (.slice (some ⟨g, 0, none⟩) n cap)).run P w = .ok (.string (bs l)) w := by
  subst hn
  exact run_convert_bytes_back w src dst e ⟨g, 0, none⟩ cap l hs he hd (fun j hj => by
    have := h.cell j (by simpa using hj)
    rw [Addr.add_lit, Nat.zero_add, this]
    simp [cellsB])
theorem getE_short {l : List UInt8} (h : l.length ≠ 24) : getE l = (0, 0, 0) ∧ okG l = false := by
  have : okG l = false := by unfold okG; simp [h]
  unfold getE
  rw [this]; exact ⟨rfl, rfl⟩
theorem entries_Get_no (s : ByteArray) (w : World) (hs : s.size ≤ maxLen) (h : s.size ≠ 24) :
    Calls Try.prog 28 #[.string s] w fun e w' => e = .returned (.tuple #[.agg #[.int .u64 0, .int .i64 0, .int .i64 0], .bool false]) ∧ Below w.heap.size w w' := by
  have c := entries_Get s w hs
  obtain ⟨h1, h2⟩ := getE_short (l := lb s) (by rw [length_lb]; exact h)
  rw [h1, h2] at c
  exact c

set_option maxHeartbeats 1000000 in
theorem EntriesForm_walk (v0 : Value) (l : List UInt8) (c : Int) (w : World) (h0 : Arr24 v0 l) (hc : 0 ≤ c ∧ c ≤ 255) :
    Calls Try.prog 7 #[v0, .int .u8 c] w fun e w' => e = .returned (.bool true) ∧ Below w.heap.size w w' := by
  obtain ⟨rfl, hl⟩ := h0
  obtain ⟨k, rfl⟩ := Int.eq_ofNat_of_zero_le hc.1
  have hk : k ≤ 255 := by have := hc.2; omega
  clear hc
  have hz := below_lit w (.cells (cellsB l).toArray 44)
  have hrow : Row (w.alloc (.cells (cellsB l).toArray 44)) w.heap.size 44 (cellsB l) := Row.new w (cellsB l).toArray 44
  have hcv : (convert 45 9 (.slice (some ⟨w.heap.size, 0, none⟩) 24 24)).run Try.prog (w.alloc (.cells (cellsB l).toArray 44)) = .ok (.string (bs l)) (w.alloc (.cells (cellsB l).toArray 44)) :=
    conv_any hrow hl Try.underlying45 Try.underlying5 Try.underlying9
  have hsz : (bs l).size = 24 := by rw [size_bs, hl]
  have b8 := v_low (bs l) hsz
  have b16 := p_low (bs l) hsz
  rw [lb_bs] at b8 b16
  have g8 : (bs l)[8] = l[8] := rfl
  have g16 : (bs l)[16] = l[16] := rfl
  rw [g8] at b8
  rw [g16] at b16
  have hog : okG l = (decide (l[8].toNat < 128) && decide (l[16].toNat < 128)) := by
    unfold okG
    rw [Bool.eq_iff_iff]
    simp only [Bool.and_eq_true, decide_eq_true_eq]
    rw [← b8, ← b16]
    simp [hl]
  have hcell8 : ∀ w', Below (w.alloc (.cells (cellsB l).toArray 44)).heap.size (w.alloc (.cells (cellsB l).toArray 44)) w' → w'.cell? ⟨w.heap.size, 8, none⟩ = some (.int .u8 (l[8].toNat : Int)) := fun w' hb => by
    have := (hrow.next hb).cell 8 (by simp [hl])
    rw [this, cellsB_getElem]
  have hcell16 : ∀ w', Below (w.alloc (.cells (cellsB l).toArray 44)).heap.size (w.alloc (.cells (cellsB l).toArray 44)) w' → w'.cell? ⟨w.heap.size, 16, none⟩ = some (.int .u8 (l[16].toNat : Int)) := fun w' hb => by
    have := (hrow.next hb).cell 16 (by simp [hl])
    rw [this, cellsB_getElem]
  have hput := @put_getE l
  have cg := fun w => entries_Get (bs l) w (by rw [hsz]; simp [maxLen])
  rw [lb_bs] at cg
  have hok : okE (getE l) := by
    rcases h : okG l with _ | _
    · unfold getE; rw [h]; simp [okE]
    · exact (hput h).2.2
  have hno : okG l = false → getE l = (0, 0, 0) := fun h => by unfold getE; rw [h]; rfl
  have cp := fun w => entries_Put (getE l) w hok
  have wm : ((k : Int) % 24) = ((k % 24 : Nat) : Int) := by omega
  obtain ⟨m, hm⟩ : ∃ m, m = k % 24 := ⟨_, rfl⟩
  have wm : ((k : Int) % 24) = (m : Int) := by omega
  have wm2 : Int.tmod (k : Int) 24 = (m : Int) := by rw [Int.tmod_eq_emod_of_nonneg (by omega)]; exact wm
  have hm2 : m < 24 := by omega
  clear b8 b16 g8 g16 hrow
  generalize l[8].toNat = q8 at hog hcell8
  generalize l[16].toNat = q16 at hog hcell16
  generalize getE l = g at cg hput hno cp hok
  generalize okG l = og at cg hput hog hno
  have Hput := Lib.hid hput
  have Hno := Lib.hid hno
  have Hog := Lib.hid hog
  have H8 := Lib.hid hcell8
  have H16 := Lib.hid hcell16
  have Hk := Lib.hid hm
  clear hput hno hog hcell8 hcell16 hm
  have hx : (bs l ++ (⟨#[120]⟩ : ByteArray)).size = 25 := by rw [ByteArray.size_append, hsz]; rfl
  go_enter Try.func7, Try.ntmps7
  go_wp2_with fail
  refine (cg _).mono ?_
  rintro e w1 ⟨rfl, hb1⟩
  obtain ⟨g1, g2, g3⟩ := g
  unfold entC
  have k1 := below_lit w1 (.cells (entC (g1, g2, g3)) 25)
  have hB1 := below_chain hb1 k1
  go_wp2_with fail
  refine (entries_Get_no _ _ (by rw [bs_extract, size_bs]; simp [maxLen]; omega) (by rw [bs_extract, size_bs]; simp; omega)).mono ?_
  rintro e w2 ⟨rfl, hb2⟩
  have hB2 := below_chain hB1 (below_chain hb2 (below_lit w2 (.cells #[.int .u64 0, .int .i64 0, .int .i64 0] 25)))
  have hX2 := below_chain hb2 (below_lit w2 (.cells #[.int .u64 0, .int .i64 0, .int .i64 0] 25))
  go_wp2_with fail
  refine (entries_Get_no _ _ (by rw [hx]; simp [maxLen]) (by rw [hx]; decide)).mono ?_
  rintro e w3 ⟨rfl, hb3⟩
  have hB3 := below_chain hB2 (below_chain hb3 (below_lit w3 (.cells #[.int .u64 0, .int .i64 0, .int .i64 0] 25)))
  have hX3 := below_chain hX2 (below_chain hb3 (below_lit w3 (.cells #[.int .u64 0, .int .i64 0, .int .i64 0] 25)))
  obtain ⟨x0, x1, x2⟩ := ent_box w1 (g1, g2, g3) 25 _ hX3
  simp only [] at x0 x1 x2
  have hk3 := below_chain hz hB3
  clear k1 hb2 hb3
  rcases ho : og with _ | _
  · have hg := Hno.out ho
    have c8 := H8.out _ hB3
    have c16 := H16.out _ hB3
    have hog := Hog.out
    rw [ho] at hog
    obtain ⟨rfl, rfl, rfl⟩ : g1 = 0 ∧ g2 = 0 ∧ g3 = 0 := by simpa using hg
    by_cases p8 : q8 < 128
    · have p16 : ¬ q16 < 128 := by intro h; simp [p8, h] at hog
      have d8 : decide ((q8 : Int) < 128) = true := by simp; omega
      have d16 : decide ((q16 : Int) < 128) = false := by simp; omega
      clear p8 p16 hog
      go_wp2_with fail
      refine (law_entered _).mono ?_
      rintro e w4 ⟨rfl, hb4⟩
      go_wp2
      go_ret
      exact ⟨rfl, below_chain hk3 hb4⟩
    · have d8 : decide ((q8 : Int) < 128) = false := by simp; omega
      clear p8 hog
      go_wp2_with fail
      refine (law_entered _).mono ?_
      rintro e w4 ⟨rfl, hb4⟩
      go_wp2
      go_ret
      exact ⟨rfl, below_chain hk3 hb4⟩
  · obtain ⟨hput, -, -⟩ := Hput.out ho
    unfold entC at cp
    go_wp2_with fail
    refine (cp _).mono ?_
    rintro e w4 ⟨rfl, hb4⟩
    rw [hput]
    have hB4 := below_chain hB3 hb4
    have c8 := H8.out _ hB4
    have c16 := H16.out _ hB4
    have hk4 := below_chain hk3 hb4
    have hog := Hog.out
    rw [ho] at hog
    have p8 : q8 < 128 := by by_cases h : q8 < 128; exact h; simp [h] at hog
    have p16 : q16 < 128 := by by_cases h : q16 < 128; exact h; simp [h] at hog
    have d8 : decide ((q8 : Int) < 128) = true := by simp; omega
    have d16 : decide ((q16 : Int) < 128) = true := by simp; omega
    clear p8 p16 hog
    go_wp2_with fail
    refine (law_entered _).mono ?_
    rintro e w5 ⟨rfl, hb5⟩
    go_wp2
    go_ret
    exact ⟨rfl, below_chain hk4 hb5⟩
end Go.Proofs.Ytikodobglhjoiaa
