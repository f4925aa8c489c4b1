/-
  annalistlaw08.Row: payloads' records, one behind the other, behind some bytes.
-/
import Derived.Test.YtjcdkekmploelaaStand
import Derived.Test.YtjcdkekmploelaaRecRow
namespace Go.Proofs.Ytjcdkekmploelaa
open Go.RowKit
set_option linter.unusedVariables false

/-- A slice of strings. -/
def strsC (ss : List ByteArray) : List Value := ss.map Value.string
@[simp, go_sem] theorem length_strsC (ss : List ByteArray) : (strsC ss).length = ss.length := by simp [strsC]
def Strs (w : World) (v : Value) (ss : List ByteArray) : Prop := Reads w v 1 ss.length (strsC ss) ∧ ∀ s ∈ ss, s.size ≤ maxLen

def rowOk (a : ByteArray) (ss : List ByteArray) : Prop := a.size ≤ 300 ∧ ss.length ≤ 20 ∧ ∀ s ∈ ss, s.size ≤ 988
def RowTold (a : ByteArray) (ss : List ByteArray) (w : World) (e : Ending) (w' : World) : Prop :=
  Below w.heap.size w w' ∧ (e = .returned (.tuple #[.string ⟨#[]⟩, .slice none 0 0, .bool false]) ∨
    (rowOk a ss ∧ ∃ v, e = .returned (.tuple #[.string (bs (rowL (lb a) (ss.map lb))), v, .bool true]) ∧ Reads w' v 1 (ss.length + 1) (natsC (rowAt (lb a) (ss.map lb)))))

theorem rowL_size (a : ByteArray) (ss : List ByteArray) (k : Nat) (h : ∀ s ∈ ss.take k, s.size ≤ 988) (hk : k ≤ ss.length) : (rowL (lb a) ((ss.take k).map lb)).length ≤ a.size + 1000 * k := by
  induction k with
  | zero => simp [rowL]
  | succ k ih =>
    have hl : k < ss.length := by omega
    rw [List.take_succ_eq_append_getElem hl, List.map_append, List.map_cons, List.map_nil, rowL_snoc, List.length_append, length_recL, length_lb]
    have h1 := ih (fun s hs => h s (by rw [List.take_succ_eq_append_getElem hl]; exact List.mem_append_left _ hs)) (by omega)
    have h2 := h ss[k] (by rw [List.take_succ_eq_append_getElem hl]; exact List.mem_append_right _ (List.mem_singleton.2 rfl))
    omega

theorem ref_recPut_any (s : ByteArray) (w : World) (hs : s.size ≤ 9223372036854775807) :
    Calls Try.prog 18 #[.string s] w fun e w' => e = .returned (.tuple #[.string (bs (putR (lb s))), .int .i64 (putE (lb s))]) ∧ Below w.heap.size w w' := by
  by_cases h : s.size ≤ 9223372036854775000
  · exact ref_recPut s w h
  · have h' : (2000 : Int) < s.size := by omega
    have e1 : putR (lb s) = [] := by unfold putR; rw [if_pos (by rw [length_lb]; omega)]
    have e2 : putE (lb s) = 3 := by unfold putE; rw [if_pos (by rw [length_lb]; omega)]
    rw [e1, e2]; clear e1 e2
    go_enter Try.func18, Try.ntmps18
    go_wp2
    go_ret2
    exact ⟨rfl, Below.refl _ _⟩

set_option maxHeartbeats 1000000 in
theorem law_Row (a : ByteArray) (v : Value) (ss : List ByteArray) (w : World) (ha : a.size ≤ maxLen) (hv : Strs w v ss) :
    Calls Try.prog 20 #[.string a, v] w (RowTold a ss w) := by
  unfold maxLen at ha
  obtain ⟨⟨A, c, rfl, hc1, hc2, -, hac⟩, hsz⟩ := hv
  unfold maxLen at hc2
  by_cases h : a.size ≤ 300 ∧ ss.length ≤ 20
  · obtain ⟨h1, h2⟩ := h
    have h1' : ¬ (300 : Int) < a.size := by omega
    have h2' : ¬ (20 : Int) < ss.length := by omega
    obtain ⟨i0, hi0, hz0, hz1, hz2⟩ := info_parts infoInt
    go_enter Try.func20, Try.ntmps20
    go_wp2_with fail
    have hown0 : (w.alloc (.cells #[.int .i64 (a.size : Int)] 3)).ownsRow w.heap.size 3 1 (.slice (some ⟨w.heap.size, 0, none⟩) 1 1) 1 (natsC (rowAt (lb a) [])) := by
      rw [rowAt_nil, length_lb]
      exact ⟨rfl, .inr ⟨_, 1, _, rfl, Nat.le_refl _, heap_alloc_new w _, Nat.le_refl _, by unfold maxLen; omega, rfl, rfl⟩⟩
    have hb0 : Below w.heap.size w (w.alloc (.cells #[.int .i64 (a.size : Int)] 3)) := below_lit _ _
    generalize (w.alloc (.cells #[.int .i64 (a.size : Int)] 3)) = w0 at hown0 hb0 ⊢
    have Hac := Lib.hid hac
    have Hsz := Lib.hid hsz
    clear hac hsz
    go_loopw [7, 8, 9] (fun sv v i wr => ∃ k : Nat, k ≤ ss.length ∧ i = .int .i64 k ∧ sv = .string (bs (rowL (lb a) ((ss.take k).map lb))) ∧ (∀ s ∈ ss.take k, s.size ≤ 988) ∧ wr.ownsRow w.heap.size 3 1 v (k + 1) (natsC (rowAt (lb a) ((ss.take k).map lb))) ∧ Below w.heap.size w wr) (fun _ _ i _ => ss.length - (intOf i).toNat)
    case atStart => exact ⟨0, Nat.zero_le _, rfl, by simp [rowL_nil, bs_lb], by simp, by simpa using hown0, hb0⟩
    case round =>
      obtain ⟨k, hk, rfl, rfl, hall, hown, hbr⟩ := hrel
      clear hown0 hb0
      have hsize := rowL_size a ss k hall hk
      have Hall := Lib.hid hall
      clear hall
      by_cases hlt : k < ss.length
      · obtain ⟨b, off, rfl, hbw, hcell0⟩ := Hac.out (by omega)
        have hcell : wr.cell? ⟨b, off + k, none⟩ = some (.string ss[k]) := (hbr.cell (p := ⟨b, off + k, none⟩) hbw).trans ((hcell0 k (by simp; omega)).trans (by simp [strsC]))
        have hsk : ss[k].size ≤ maxLen := Hsz.out _ (List.getElem_mem hlt)
        obtain ⟨x, hx⟩ : ∃ x, x = ss[k] := ⟨_, rfl⟩
        rw [← hx] at hcell hsk
        have i1 : (k : Int) < ss.length := by omega
        have Hx := Lib.hid hx
        have Hcell0 := Lib.hid hcell0
        obtain ⟨S, hS⟩ : ∃ S, S = rowL (lb a) ((ss.take k).map lb) := ⟨_, rfl⟩
        rw [← hS] at hsize ⊢
        have HS := Lib.hid hS
        clear hx hcell0 hS
        unfold maxLen at hsk
        go_wp2_with fail
        have hbig : True := trivial
        refine (ref_recPut_any _ _ (by omega)).mono ?_
        · skip
          rintro e w1 ⟨rfl, hb1⟩
          by_cases hx1 : x.size ≤ 988
          · have e1 : putR (lb x) = recL (lb x) := by unfold putR; rw [if_neg (by rw [length_lb]; omega)]
            have e2 : putE (lb x) = 0 := by unfold putE; rw [if_neg (by rw [length_lb]; omega)]
            have hrl : (recL (lb x)).length = x.size + 12 := by rw [length_recL, length_lb]
            rw [e1, e2]
            have hown1 := own_next hown hb1
            have hbw1 := below_more hbr hb1 (Nat.le_refl _)
            have e3 : S ++ recL (lb x) = rowL (lb a) ((ss.take (k + 1)).map lb) := by
              rw [List.take_succ_eq_append_getElem hlt, List.map_append, List.map_cons, List.map_nil, rowL_snoc, ← HS.out, ← Hx.out]
            have e4 : natsC (rowAt (lb a) ((ss.take (k + 1)).map lb)) = natsC (rowAt (lb a) ((ss.take k).map lb)) ++ [.int .i64 ((rowL (lb a) ((ss.take (k + 1)).map lb)).length : Int)] := by
              rw [List.take_succ_eq_append_getElem hlt, List.map_append, List.map_cons, List.map_nil, rowAt_snoc, natsC_snoc]
            have hlen3 : (rowL (lb a) ((ss.take (k + 1)).map lb)).length = S.length + x.size + 12 := by rw [← e3, List.length_append, hrl]; omega
            have hbig3 : (S.length : Int) + (x.size + 12) ≤ 9223372036854775807 := by omega
            obtain ⟨T, hT⟩ : ∃ T, T = recL (lb x) := ⟨_, rfl⟩
            rw [← hT] at e3 hrl ⊢
            have hTl : T.length ≤ 1000 := by omega
            obtain ⟨n3, hn3⟩ : ∃ n3, n3 = S.length + T.length := ⟨_, rfl⟩
            have E3 := Lib.hid e3
            have E4 := Lib.hid e4
            have Hlen3 := Lib.hid hlen3
            have Hx1 := Lib.hid hx1
            clear e1 e2 e3 e4 hown hlen3 hT hrl hx1 hbig3 hn3
            have hT1 : decide ((1000 : Int) < T.length) = false := by rw [decide_eq_false_iff_not]; omega
            go_wp2_with (at_builtin; refine wpList_append_own _ rfl _ _ 30 rfl w.heap.size 3 i0 (.int .i64 0) 1 8 Try.underlying30 hi0 hz0 hz1 hz2 rfl (by decide) _ _ _ rfl (hown1.alloc _) ⟨w1.heap.size, 0, none⟩ 1 1 [.int .i64 ((S.length : Int) + T.length)] rfl rfl (cell_one _ _ _) (by intro u hu; simp at hu; subst hu; rfl) (by unfold maxLen; omega) (by omega) (by have := hbw1.size; simp; omega) ?_; intro v2 w2 hown2 hg2 _)
            have hbw2 : Below w.heap.size w w2 := (hbw1.alloc hbw1.size _).grown hg2 (by have := hbw1.size; simp; omega) (own_block_ge hown1)
            have e5 : ((rowL (lb a) ((ss.take (k + 1)).map lb)).length : Int) = (S.length : Int) + T.length := by rw [← E3.out, List.length_append]; omega
            have hrow2 : w2.ownsRow w.heap.size 3 1 v2 (k + 1 + 1) (natsC (rowAt (lb a) ((ss.take (k + 1)).map lb))) := by rw [E4.out, e5]; exact hown2
            clear hown2 hg2 hown1 e5
            go_roundw
            case rel =>
              refine ⟨k + 1, by omega, by go_num, by rw [bs_append, E3.out], ?_, hrow2, hbw2⟩
              intro s hs
              rw [List.take_succ_eq_append_getElem hlt] at hs
              rcases List.mem_append.1 hs with hs | hs
              · exact Hall.out s hs
              · rw [List.mem_singleton.1 hs, ← Hx.out]; exact Hx1.out
            case measure => simp [intOf]; omega
          · by_cases hx2 : x.size ≤ 2000
            · have e1 : putR (lb x) = recL (lb x) := by unfold putR; rw [if_neg (by rw [length_lb]; omega)]
              have e2 : putE (lb x) = 0 := by unfold putE; rw [if_neg (by rw [length_lb]; omega)]
              have hrl : (recL (lb x)).length = x.size + 12 := by rw [length_recL, length_lb]
              rw [e1, e2]
              obtain ⟨T, hT⟩ : ∃ T, T = recL (lb x) := ⟨_, rfl⟩
              rw [← hT] at hrl ⊢
              have hT1 : decide ((1000 : Int) < T.length) = true := by rw [decide_eq_true_iff]; omega
              clear e1 e2 hT hrl
              go_wp2
              go_ret3
              exact ⟨below_more hbr hb1 (Nat.le_refl _), .inl rfl⟩
            · have e1 : putR (lb x) = [] := by unfold putR; rw [if_pos (by rw [length_lb]; omega)]
              have e2 : putE (lb x) = 3 := by unfold putE; rw [if_pos (by rw [length_lb]; omega)]
              rw [e1, e2]
              clear e1 e2
              go_wp2
              go_ret3
              exact ⟨below_more hbr hb1 (Nat.le_refl _), .inl rfl⟩
      · obtain rfl : k = ss.length := by omega
        have hall := Hall.out
        rw [List.take_length] at hall hown ⊢
        go_wp2
        go_ret3
        exact ⟨hbr, .inr ⟨⟨h1, h2, hall⟩, _, rfl, Reads.of_own hown⟩⟩
  · have hno : (300 : Int) < a.size ∨ (¬ (300 : Int) < a.size ∧ (20 : Int) < ss.length) := by omega
    rcases hno with h1 | ⟨h1, h2⟩
    all_goals
      clear h
      go_enter Try.func20, Try.ntmps20
      go_wp2
      go_ret3
      exact ⟨Below.refl _ _, .inl rfl⟩
end Go.Proofs.Ytjcdkekmploelaa
