/-
  What comes into the model's laws, opened: an act, a list of acts.
-/
import Derived.Test.YtmplabhofhllmaaModAct
import Derived.Test.YtmplabhofhllmaaOpenList
import Derived.Lib.SmallJoins
namespace Go.Proofs.Ytmplabhofhllmaa
open Go.RowKit Go.ChangeShapes Go.WideShapes
set_option linter.unusedVariables false

theorem trod_flt {H : Type} {enc : TypeId × Value → H} {P : Program} {w : World} {base : Nat} {spare : Nat → Bool} {held : Bool} {fuel : Nat} {t : TypeId} {cs : List Value} {x : DataW H × List MemPlace} (ht : P.underlying t = some (.float .f64)) (h : DataW.trod enc P w base spare held fuel t cs = some x) : ∃ n, cs = [.float .f64 n] ∧ n < 18446744073709551616 := by
  cases fuel with
  | zero => simp [DataW.trod] at h
  | succ n =>
    unfold DataW.trod at h
    rw [ht] at h
    split at h <;> simp_all
    rename_i hh
    subst hh
    have h9 := h.1
    simp only [Lit.wf, decide_eq_true_eq] at h9
    omega
theorem trod_struct5 {H : Type} {enc : TypeId × Value → H} {P : Program} {w : World} {base : Nat} {spare : Nat → Bool} {held : Bool} {t : TypeId} {f0 f1 f2 f3 f4 : Field} {fuel : Nat} {cs : List Value} {x : DataW H × List MemPlace} (ht : P.underlying t = some (.struct #[f0, f1, f2, f3, f4])) (h : DataW.trod enc P w base spare held fuel t cs = some x) :
    ∃ y0 y1 y2 y3 y4 n, DataW.trod enc P w base spare held n f0.type ((cs.drop f0.offset).take (P.cellsOf f0.type)) = some y0 ∧
      DataW.trod enc P w base spare held n f1.type ((cs.drop f1.offset).take (P.cellsOf f1.type)) = some y1 ∧ DataW.trod enc P w base spare held n f2.type ((cs.drop f2.offset).take (P.cellsOf f2.type)) = some y2 ∧
      DataW.trod enc P w base spare held n f3.type ((cs.drop f3.offset).take (P.cellsOf f3.type)) = some y3 ∧ DataW.trod enc P w base spare held n f4.type ((cs.drop f4.offset).take (P.cellsOf f4.type)) = some y4 := by
  obtain ⟨xs, n, _, rfl, hl, hlen, hf⟩ := DataW.trod_struct ht h
  match xs, hlen with
  | [y0, y1, y2, y3, y4], _ => exact ⟨y0, y1, y2, y3, y4, n, by simpa using hf 0 f0 rfl, by simpa using hf 1 f1 rfl, by simpa using hf 2 f2 rfl, by simpa using hf 3 f3 rfl, by simpa using hf 4 f4 rfl⟩
theorem open_list2 {α H : Type} {enc : TypeId × Value → H} {P : Program} {W : World} {t e : TypeId} {v : Value} {fuel : Nat} {y : DataW H × List MemPlace} (ht : P.underlying t = some (.slice e)) (size : Nat) (hsz : 0 < size) (hc : P.cellsOf e = size)
    (f : α → List Value) (hlen : ∀ x, (f x).length = size) (ok : α → Prop)
    (hx : ∀ n cs y, cs.length = size → DataW.trod enc P W 0 (fun _ => true) true n e cs = some y → ∃ x, ok x ∧ cs = f x)
    (hf : DataW.trod enc P W 0 (fun _ => true) true fuel t [v] = some y) : ∃ l : List α, Reads W v size l.length (l.flatMap f) ∧ ∀ x ∈ l, ok x := by
  rcases Deep.open_slice ht hf with ⟨hcs, -⟩ | ⟨a, len, cap', m, n, D, Pl, hcs, _, hl, hm, hmm, -, hall⟩
  · simp at hcs
    subst hcs
    exact ⟨[], Reads.nil _ _, by simp⟩
  · simp at hcs
    subst hcs
    simp only [if_true] at hmm
    subst hmm
    have each : ∀ i, i < len → ∃ x, ok x ∧ ∀ j, (hj : j < size) → W.cell? ((a.add (i * size)).add j) = (f x)[j]? := by
      intro i hi
      obtain ⟨cs', h1, h2⟩ := hall i (by omega)
      rw [hc] at h1
      obtain ⟨_, hcl, hcell⟩ := World.cells?_some h1
      obtain ⟨x, hox, rfl⟩ := hx n cs' _ hcl h2
      refine ⟨x, hox, fun j hj => ?_⟩
      rw [hcell j (by omega)]
    have each' : ∀ i : Fin len, ∃ x, ok x ∧ ∀ j, (hj : j < size) → W.cell? ((a.add (i.1 * size)).add j) = (f x)[j]? := fun i => each i.1 i.2
    refine ⟨List.ofFn fun i => Classical.choose (each' i), ?_, ?_⟩
    · have hl2 : (List.ofFn fun i => Classical.choose (each' i)).length = len := List.length_ofFn
      rw [hl2]
      refine ⟨some a, _, rfl, hl, hm, by rw [flatMap_len f size hlen, hl2], fun h0 => ?_⟩
      obtain ⟨b, o, spot⟩ := a
      have c0 := (Classical.choose_spec (each' ⟨0, h0⟩)).2 0 hsz
      have hspot : spot = none := by
        rw [List.getElem?_eq_getElem (by rw [hlen]; exact hsz)] at c0
        simpa [Addr.add] using World.cell?_spot c0
      subst hspot
      refine ⟨b, o, rfl, ?_, fun j hj => ?_⟩
      · rcases Nat.lt_or_ge b W.heap.size with h | h
        · exact h
        · rw [List.getElem?_eq_getElem (by rw [hlen]; exact hsz)] at c0
          unfold World.cell? at c0
          simp [Addr.add, Array.getElem?_eq_none h] at c0
      · have hj' : j < len * size := by rw [flatMap_len f size hlen, hl2] at hj; exact hj
        have hq : j / size < len := Nat.div_lt_of_lt_mul (by rw [Nat.mul_comm]; exact hj')
        have hr : j % size < size := Nat.mod_lt _ hsz
        have hd : j / size * size + j % size = j := by rw [Nat.mul_comm]; exact Nat.div_add_mod j size
        have c1 := (Classical.choose_spec (each' ⟨j / size, hq⟩)).2 (j % size) hr
        have g := flatMap_get f size hlen (List.ofFn fun i => Classical.choose (each' i)) (j / size) (j % size) (by rw [hl2]; exact hq) hr
        rw [hd, List.getElem?_eq_getElem hj, List.getElem_ofFn] at g
        rw [g, ← c1, Addr.add_lit, Addr.add_lit]
        congr 2
        simp only []
        omega
    · intro x hx'
      obtain ⟨i, rfl⟩ := List.mem_ofFn.1 hx'
      exact (Classical.choose_spec (each' i)).1
theorem cells_actM : Try.prog.cellsOf 34 = 5 := by kernel_rfl
theorem cells_evM : Try.prog.cellsOf 46 = 3 := by kernel_rfl
theorem cells_u8M : Try.prog.cellsOf 5 = 1 := by kernel_rfl
theorem cells_strM : Try.prog.cellsOf 9 = 1 := by kernel_rfl
theorem cells_intM : Try.prog.cellsOf 3 = 1 := by kernel_rfl
theorem cells_fltM : Try.prog.cellsOf 44 = 1 := by kernel_rfl
theorem cells_sevM : Try.prog.cellsOf 32 = 1 := by kernel_rfl
theorem list3M {α : Type} (l : List α) (h : l.length = 3) : ∃ a b c, l = [a, b, c] := by
  match l, h with
  | [a, b, c], _ => exact ⟨a, b, c, rfl⟩
theorem list5M {α : Type} (l : List α) (h : l.length = 5) : ∃ a b c d e, l = [a, b, c, d, e] := by
  match l, h with
  | [a, b, c, d, e], _ => exact ⟨a, b, c, d, e, rfl⟩
theorem trod_ev {H : Type} {enc : TypeId × Value → H} {W : World} {base : Nat} {spare : Nat → Bool} {held : Bool} (n : Nat) (cs : List Value) (y : DataW H × List MemPlace) (hl : cs.length = 3) (h : DataW.trod enc Try.prog W base spare held n 46 cs = some y) :
    ∃ e : Ev, okV e ∧ cs = evL e := by
  obtain ⟨c0, c1, c2, rfl⟩ := list3M cs hl
  obtain ⟨y0, y1, y2, m, -, -, h0, h1, h2⟩ := Deep.trod_struct3 Try.underlying46 h
  simp only [cells_strM, cells_fltM] at h0 h1 h2
  obtain ⟨s0, e0, -, w0⟩ := DataW.trod_string Try.underlying9 h0
  obtain ⟨s1, e1, -, w1⟩ := DataW.trod_string Try.underlying9 h1
  obtain ⟨x2, e2, w2⟩ := trod_flt Try.underlying44 h2
  simp at e0 e1 e2
  subst e0 e1 e2
  exact ⟨(s0, s1, x2), ⟨w0, w1, w2⟩, rfl⟩
theorem trod_actM {H : Type} {enc : TypeId × Value → H} {W : World} (n : Nat) (cs : List Value) (y : DataW H × List MemPlace) (hl : cs.length = 5) (h : DataW.trod enc Try.prog W 0 (fun _ => true) true n 34 cs = some y) :
    ∃ p : ActP, actOk W p ∧ cs = actL p := by
  obtain ⟨c0, c1, c2, c3, c4, rfl⟩ := list5M cs hl
  obtain ⟨y0, y1, y2, y3, y4, m, h0, h1, h2, h3, h4⟩ := trod_struct5 Try.underlying34 h
  simp only [cells_u8M, cells_strM, cells_intM, cells_sevM] at h0 h1 h2 h3 h4
  obtain ⟨x0, e0, -, w0⟩ := DataW.trod_int Try.underlying5 h0
  obtain ⟨s1, e1, -, w1⟩ := DataW.trod_string Try.underlying9 h1
  obtain ⟨x2, e2, -, w2⟩ := DataW.trod_int Try.underlying3 h2
  obtain ⟨x3, e3, -, w3⟩ := DataW.trod_int Try.underlying3 h3
  obtain ⟨l, hr, hok⟩ := open_list2 Try.underlying32 3 (by omega) cells_evM evL (fun _ => rfl) okV (fun n cs y hl h => trod_ev n cs y hl h) (v := c4) (by simpa using h4)
  simp at e0 e1 e2 e3
  subst e0 e1 e2 e3
  have b0 := bounds_u8 w0
  refine ⟨(c4, ⟨x0.toNat, s1, x2, x3, l⟩), ⟨⟨hr, hok⟩, by simp only []; omega, w1, bounds_i64 w2, bounds_i64 w3⟩, ?_⟩
  have : (x0.toNat : Int) = x0 := by omega
  unfold actL
  simp only []
  rw [this]
def ActIsM (W : World) (v : Value) (p : ActP) : Prop := v = .agg (actA p) ∧ actOk W p
theorem open_annalistlaw27Act {H : Type} {enc : TypeId × Value → H} {W : World} {base : Nat} {v : Value} {d : DataW H} {p : List MemPlace} (hval : Value.okWide Try.prog W .any base 34 v) (h : DataW.Trod enc Try.prog W 0 (fun _ => true) true 34 v d p) :
    ∃ a, ActIsM W v a := by
  obtain ⟨cs, rfl, hsz, _⟩ : ∃ cs, v = .agg cs ∧ cs.size = Try.prog.cellsOf 34 ∧ Row.okWide Try.prog W .any base 34 cs := by
    simpa [Value.okWide, Try.underlying34] using hval
  rw [cells_actM] at hsz
  obtain ⟨fuel, hf⟩ := h
  obtain ⟨e, he, hc⟩ := trod_actM fuel _ _ (by simpa [Value.cells] using hsz) hf
  refine ⟨e, ?_, he⟩
  have : cs.toList = actL e := by simpa [Value.cells] using hc
  obtain ⟨l⟩ := cs
  simp only [] at this
  rw [this]; rfl
theorem open_SliceOfannalistlaw27Act {H : Type} {enc : TypeId × Value → H} {W : World} {base : Nat} {v : Value} {d : DataW H} {p : List MemPlace} (hval : Value.okWide Try.prog W .any base 22 v) (h : DataW.Trod enc Try.prog W 0 (fun _ => true) true 22 v d p) :
    ∃ X : List ActP, ActsV W v X :=
  open_list Try.underlying22 5 (by omega) cells_actM actL (fun _ => rfl) (actOk W) (fun n cs y hl h => trod_actM n cs y hl h) hval h
end Go.Proofs.Ytmplabhofhllmaa
