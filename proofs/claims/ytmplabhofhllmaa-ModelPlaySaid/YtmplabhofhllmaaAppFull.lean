/-
  'append(s[:n:n], other...)': the first slice has no room; what is told is new memory, if anything is appended.
-/
import Derived.Test.YtmplabhofhllmaaAppend
import Derived.Deep.Upon
namespace Go.Proofs.Ytmplabhofhllmaa
open Go.RowKit
set_option linter.unusedVariables false

theorem Reads.src {P : Program} {w : World} {v : Value} {size m : Nat} {news : List Value} {t e : TypeId} (hk : P.underlying t = some (.slice e)) (hr : Reads w v size m news) (h1 : ∀ u ∈ news, u.oneCell' = true) : Src P size t v m news w := by
  obtain ⟨A, c, rfl, hmc, hcm, hl, hc⟩ := hr
  rcases A with _ | a
  · have hm : m = 0 := by
      rcases Nat.eq_zero_or_pos m with h | h
      · exact h
      · obtain ⟨b, off, h, _⟩ := hc h; cases h
    subst hm
    have hn : news = [] := List.eq_nil_of_length_eq_zero (by simpa using hl)
    subst hn
    exact Src.ofNil w hk c
  · refine Src.ofSlice w hk a m c news hl ?_ h1
    intro j u hju
    have hj : j < news.length := (List.getElem?_eq_some_iff.1 hju).1
    have hmpos : 0 < m := by
      rcases Nat.eq_zero_or_pos m with h | h
      · subst h; simp at hl; simp [hl] at hj
      · exact h
    obtain ⟨b, off, hA, hlt, hcell⟩ := hc hmpos
    cases hA
    rw [Addr.add_lit, hcell j hj]
    rw [List.getElem?_eq_getElem hj] at hju; exact hju
theorem append_full {P : Program} (w : World) (t ty e : TypeId) (i : TypeInfo) (z : Value) (size bytes : Nat) (ht : P.underlying t = some (.slice e)) (hi : P.info? e = some i) (hz : i.zero = some z)
    (hsize : i.size = size) (hby : i.bytes = bytes) (hzs : z.cells.size = size)
    (A : Option Addr) (n : Nat) (xs : List Value) (hv : Reads w (.slice A n n) size n xs) (h0 : ∀ u ∈ xs, u.oneCell' = true) (v2 : Value) (m : Nat) (news : List Value) (hr : Reads w v2 size m news) (h1 : ∀ u ∈ news, u.oneCell' = true)
    (h63 : n + m ≤ maxLen) (hbytes : (n + m) * bytes ≤ 140737488355328) :
    ∃ v' w', (Builtin.append_ #[t, t] ty #[.slice A n n, v2]).run P w = .ok v' w' ∧ Reads w' v' size (n + m) (xs ++ news) ∧ (0 < m → w'.ownsRow w.heap.size e size v' (n + m) (xs ++ news)) ∧ w.grownBy w' none := by
  subst hsize
  subst hby
  have hs2 : Src P i.size t v2 m news w := hr.src ht h1
  rcases Nat.eq_zero_or_pos m with hm | hm
  · subst hm
    have hn : news = [] := List.eq_nil_of_length_eq_zero (by simpa using hr.choose_spec.choose_spec.2.2.2.1)
    subst hn
    refine ⟨_, w, run_append_nothing w t t ty e i ht hi A n n (Nat.le_refl _) v2 hs2, by simpa using hv, fun h => absurd h (by omega), ⟨rfl, rfl, rfl, Nat.le_refl _, fun _ _ _ => rfl⟩⟩
  · have hold : (Builtin.firstCells i.size n (.slice A n n)).run P w.drew = .ok xs.toArray w.drew := (hv.src ht h0).cellsD
    have hxl : xs.length = n * i.size := hv.choose_spec.choose_spec.2.2.2.1
    have hnl : news.length = m * i.size := hr.choose_spec.choose_spec.2.2.2.1
    have hsmall : n + m ≤ 9223372036854775807 := by simp only [maxLen] at h63; omega
    have hge := grownCap_ge w (n + m) n e
    have hcm : grownCap w (n + m) n e ≤ maxLen := grownCap_le_maxLen w (n + m) n e h63
    have hrun := run_append_grow_src (P := P) w t t ty e i z ht hi hz A n n xs hold v2 m news hs2 (by omega) (by omega) (growslice_fits (by omega) hbytes)
    have hlen : (xs ++ news).length = (n + m) * i.size := by rw [List.length_append, hxl, hnl, Nat.add_mul]
    have hown : (w.drew.alloc (.cells ((xs ++ news).toArray ++ Builtin.zeroCells z.cells (grownCap w (n + m) n e - (n + m))) e)).ownsRow w.heap.size e i.size (.slice (some ⟨w.heap.size, 0, none⟩) (n + m) (grownCap w (n + m) n e)) (n + m) (xs ++ news) := by
      refine ⟨hlen, .inr ⟨w.heap.size, _, _, rfl, Nat.le_refl _, heap_alloc_new w.drew _, hge, hcm, ?_, ?_⟩⟩
      · simp only [Array.size_append, List.size_toArray, size_zeroCells, hzs, hlen, ← Nat.add_mul]
        congr 1
        omega
      · simp only [Array.toList_append]
        rw [← hlen]
        exact List.take_left
    exact ⟨_, _, hrun, Reads.of_own hown, fun _ => hown, ⟨rfl, rfl, rfl, by simp, fun k hk _ => Below.heap_alloc w.drew _ k hk⟩⟩
theorem wpList_append_full {P : Program} (w : World) {ops : Array Oper} {rest : List Oper} {o : Oper} {a : Act} {Q : Exit → Act → World → Prop} (hgd : o.guard = none) (s x : Operand) (t : TypeId)
    (ho : o.op = .call { callee := .builtin .append, args := #[s, x], argTypes := #[t, t] })
    (e : TypeId) (i : TypeInfo) (z : Value) (size bytes : Nat) (ht : P.underlying t = some (.slice e)) (hi : P.info? e = some i) (hz : i.zero = some z)
    (hsize : i.size = size) (hby : i.bytes = bytes) (hzs : z.cells.size = size)
    (A : Option Addr) (n : Nat) (xs : List Value) (hs : a.eval s = .slice A n n) (hv : Reads w (.slice A n n) size n xs) (h0 : ∀ u ∈ xs, u.oneCell' = true)
    (v2 : Value) (m : Nat) (news : List Value) (hx : a.eval x = v2) (hr : Reads w v2 size m news) (h1 : ∀ u ∈ news, u.oneCell' = true)
    (h63 : n + m ≤ maxLen) (hbytes : (n + m) * bytes ≤ 140737488355328)
    (h : ∀ v' w', Reads w' v' size (n + m) (xs ++ news) → (0 < m → w'.ownsRow w.heap.size e size v' (n + m) (xs ++ news)) → w.grownBy w' none → wpList P ops Q rest (a.put o.dst v') w') : wpList P ops Q (o :: rest) a w := by
  obtain ⟨v', w', r1, r2, r3, r4⟩ := append_full (P := P) w t o.type e i z size bytes ht hi hz hsize hby hzs A n xs hv h0 v2 m news hr h1 h63 hbytes
  refine wpList_plain hgd fun K hK => ?_
  unfold Oper.wp execOp
  simp only [ho, resolve, invoke, builtin, Sem.run_bind, Sem.run_pure, Result.andThen_ok, List.map_toArray, List.map_cons, List.map_nil, hs, hx, r1]
  exact hK _ _ (h v' w' r2 r3 r4)
/-- The same, as one operation of a region that draws its order. -/
theorem step_append_full {P : Program} {w : World} {ops : Array Oper} {o : Oper} {a : Act} {K : Act → World → Prop} {Q : Exit → Act → World → Prop} {E : Prop} (hgd : o.guard = none) (s x : Operand) (t : TypeId)
    (ho : o.op = .call { callee := .builtin .append, args := #[s, x], argTypes := #[t, t] })
    (e : TypeId) (i : TypeInfo) (z : Value) (size bytes : Nat) (ht : P.underlying t = some (.slice e)) (hi : P.info? e = some i) (hz : i.zero = some z)
    (hsize : i.size = size) (hby : i.bytes = bytes) (hzs : z.cells.size = size)
    (A : Option Addr) (n : Nat) (xs : List Value) (hs : a.eval s = .slice A n n) (hv : Reads w (.slice A n n) size n xs) (h0 : ∀ u ∈ xs, u.oneCell' = true)
    (v2 : Value) (m : Nat) (news : List Value) (hx : a.eval x = v2) (hr : Reads w v2 size m news) (h1 : ∀ u ∈ news, u.oneCell' = true)
    (h63 : n + m ≤ maxLen) (hbytes : (n + m) * bytes ≤ 140737488355328)
    (h : ∀ v' w', Reads w' v' size (n + m) (xs ++ news) → (0 < m → w'.ownsRow w.heap.size e size v' (n + m) (xs ++ news)) → w.grownBy w' none → K (a.put o.dst v') w') : if Region.wanted o (yielded ops a.tmps) = true then Oper.wp P o a w K Q else E := by
  have hw : Region.wanted o (yielded ops a.tmps) = true := by simp [Region.wanted, hgd]
  rw [if_pos hw]
  obtain ⟨v', w', r1, r2, r3, r4⟩ := append_full (P := P) w t o.type e i z size bytes ht hi hz hsize hby hzs A n xs hv h0 v2 m news hr h1 h63 hbytes
  unfold Oper.wp
  simp [execOp, ho, resolve, invoke, builtin, hs, hx, r1, Result.andThen]
  exact h v' w' r2 r3 r4
/-- The same, as one operation of a region that draws its order. -/
theorem step_append_reads {P : Program} {w : World} {ops : Array Oper} {o : Oper} {a : Act} {K : Act → World → Prop} {Q : Exit → Act → World → Prop} {E : Prop} (hgd : o.guard = none) (s x : Operand) (t : TypeId)
    (ho : o.op = .call { callee := .builtin .append, args := #[s, x], argTypes := #[t, t] })
    (base : Nat) (e : TypeId) (i : TypeInfo) (z : Value) (size bytes : Nat) (ht : P.underlying t = some (.slice e)) (hi : P.info? e = some i) (hz : i.zero = some z)
    (hsize : i.size = size) (hby : i.bytes = bytes) (hzs : z.cells.size = size) (hsz : 0 < size)
    (v : Value) (n : Nat) (xs : List Value) (hs : a.eval s = v) (hown : w.ownsRow base e size v n xs)
    (v2 : Value) (m : Nat) (news : List Value) (hx : a.eval x = v2) (hr : Reads w v2 size m news) (h1 : ∀ u ∈ news, u.oneCell' = true)
    (h63 : n + m ≤ maxLen) (hbytes : (n + m) * bytes ≤ 140737488355328) (hbase : base ≤ w.heap.size)
    (h : ∀ v' w', w'.ownsRow base e size v' (n + m) (xs ++ news) → w.grownBy w' v.ownBlock → K (a.put o.dst v') w') : if Region.wanted o (yielded ops a.tmps) = true then Oper.wp P o a w K Q else E := by
  have hw : Region.wanted o (yielded ops a.tmps) = true := by simp [Region.wanted, hgd]
  rw [if_pos hw]
  obtain ⟨v', w', r1, r2, r3⟩ := append_reads (P := P) w base t o.type e i z size bytes ht hi hz hsize hby hzs hsz v n xs hown v2 m news hr h1 h63 hbytes hbase
  unfold Oper.wp
  simp [execOp, ho, resolve, invoke, builtin, hs, hx, r1, Result.andThen]
  exact h v' w' r2 r3
end Go.Proofs.Ytmplabhofhllmaa
