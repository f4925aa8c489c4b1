/-
  THE PLAIN LAW OF TABLES: what is put is got; what is spoilt is none.
-/
import Derived.Test.YtikodobglhjoiaaTablesLaw
import Derived.Test.YtikodobglhjoiaaTurn
import Derived.Test.YtikodobglhjoiaaMade18
namespace Go.Proofs.Ytikodobglhjoiaa
set_option linter.unusedVariables false

theorem lowL_shift : ∀ d, d < 256 → lowL (d * 256 ^ 0) = [UInt8.ofNat d, 0, 0, 0] ∧ lowL (d * 256 ^ 1) = [0, UInt8.ofNat d, 0, 0] ∧ lowL (d * 256 ^ 2) = [0, 0, UInt8.ofNat d, 0] ∧ lowL (d * 256 ^ 3) = [0, 0, 0, UInt8.ofNat d] := by decide +kernel
theorem zipx_low (d : Nat) (hd : d < 256) : ∀ (j : Nat) (l : List UInt8), j < 4 → 4 ≤ l.length → zipx l (lowL (d * 256 ^ j)) = l.take j ++ zipx (l.drop j) [UInt8.ofNat d] := by
  have z0 : ∀ x : UInt8, x ^^^ 0 = x := fun x => UInt8.xor_zero
  intro j l hj hl
  obtain ⟨a, b, c, e, r, rfl⟩ : ∃ a b c e r, l = a :: b :: c :: e :: r := by
    match l, hl with
    | a :: b :: c :: e :: r, _ => exact ⟨a, b, c, e, r, rfl⟩
  obtain ⟨h0, h1, h2, h3⟩ := lowL_shift d hd
  match j, hj with
  | 0, _ => rw [h0]; simp [zipx, zipx_nil]
  | 1, _ => rw [h1]; simp [zipx, zipx_nil]
  | 2, _ => rw [h2]; simp [zipx, zipx_nil]
  | 3, _ => rw [h3]; simp [zipx, zipx_nil]
theorem turned_one (t : List UInt8) (k d : Nat) (hk : k < t.length + 4) (hd : d < 256) (h0 : d ≠ 0) : openOk (turnL (sealL t) k [UInt8.ofNat d]) = false := by
  have hl := sealL_length t
  obtain ⟨k', j, hkj, hj, hk'⟩ : ∃ k' j, k = k' + j ∧ j < 4 ∧ k' ≤ t.length := by
    by_cases h : k ≤ t.length
    · exact ⟨k, 0, rfl, by omega, h⟩
    · exact ⟨t.length, k - t.length, by omega, by omega, Nat.le_refl _⟩
  subst hkj
  have hp : 0 < 256 ^ j := Nat.pow_pos (by decide)
  have hpj : 256 ^ j ≤ 256 ^ 3 := Nat.pow_le_pow_right (by decide) (by omega)
  have e : turnL (sealL t) (k' + j) [UInt8.ofNat d] = turnL (sealL t) k' (lowL (d * 256 ^ j)) := by
    unfold turnL
    rw [zipx_low d hd j _ hj (by simp; omega), List.drop_drop, ← List.append_assoc, List.take_add]
  rw [e]
  refine turned_seal t k' (d * 256 ^ j) hk' ?_ (Nat.mul_ne_zero h0 (by omega))
  calc d * 256 ^ j ≤ 255 * 256 ^ 3 := Nat.mul_le_mul (by omega) hpj
    _ < 4294967296 := by decide

theorem tab_parts {s : List UInt8} (h : tabOk s = true) : 12 ≤ s.length ∧ (s.length - 12) % 24 = 0 ∧ s.take 8 = headT (manyT s) ∧ openOk s = true := by
  unfold tabOk at h
  simp only [Bool.and_eq_true, decide_eq_true_eq, beq_iff_eq] at h
  obtain ⟨⟨⟨⟨h1, h2⟩, h3⟩, h4⟩, h5⟩ := h
  have hL := length_parsedT (s.drop 8) (manyT s)
  generalize parsedT (s.drop 8) (manyT s) = P at *
  have hput : putT P = sealL (rawT P) := by unfold putT; rw [h4, if_pos rfl]
  rw [hput] at h5
  refine ⟨h1, h2, ?_, by rw [← h5]; exact openOk_seal _⟩
  conv => lhs; arg 2; rw [← h5]
  unfold sealL rawT
  rw [hL, List.append_assoc, List.take_left' (by simp [headT])]
theorem tab_head {a b : List UInt8} (ha : tabOk a = true) (hb : tabOk b = true) (h : a.take 8 = b.take 8) (la : a.length ≤ 1000000000) (lb : b.length ≤ 1000000000) : a.length = b.length := by
  obtain ⟨a1, a2, a3, -⟩ := tab_parts ha
  obtain ⟨b1, b2, b3, -⟩ := tab_parts hb
  rw [a3, b3] at h
  unfold headT at h
  have h2 := List.append_cancel_left h
  have h3 : num (be 4 (manyT a)) = num (be 4 (manyT b)) := by rw [h2]
  rw [num_be, num_be] at h3
  have m1 : manyT a < 256 ^ 4 := by unfold manyT; omega
  have m2 : manyT b < 256 ^ 4 := by unfold manyT; omega
  rw [Nat.mod_eq_of_lt m1, Nat.mod_eq_of_lt m2] at h3
  unfold manyT at h3; omega
theorem body_at {M : List Ent} (hm : M.all mayE = true) {i : Nat} {e : Ent} (hi : M[i]? = some e) (z : List UInt8) : partT (bodyT M ++ z) i = putEnt e ∧ 24 * i + 24 ≤ (bodyT M).length := by
  have hlt : i < M.length := (List.getElem?_eq_some_iff.1 hi).1
  have hme : mayE e = true := List.all_eq_true.1 hm e (List.mem_of_getElem? hi)
  have hs : M = M.take i ++ e :: M.drop (i + 1) := by
    have : M.drop i = e :: M.drop (i + 1) := by
      rw [List.drop_eq_getElem_cons hlt]
      rw [List.getElem?_eq_getElem hlt, Option.some.injEq] at hi
      rw [hi]
    rw [← this, List.take_append_drop]
  have hb : bodyT M = bodyT (M.take i) ++ (putEnt e ++ bodyT (M.drop (i + 1))) := by
    conv => lhs; rw [hs]
    unfold bodyT
    rw [List.flatMap_append, List.flatMap_cons]
  have h1 : (bodyT (M.take i)).length = 24 * i := by
    rw [length_bodyT (List.all_eq_true.2 fun x hx => List.all_eq_true.1 hm x (List.mem_of_mem_take hx))]; simp; omega
  have h2 := putEnt_length hme
  refine ⟨?_, ?_⟩
  · unfold partT
    rw [hb, List.append_assoc, List.append_assoc, List.drop_left' h1, List.take_left' h2]
  · rw [length_bodyT hm]; omega
theorem tab_put {M : List Ent} (hm : mayT M = true) (ho : ∀ e ∈ M, okE e) (hn : M.length ≤ 1000000) :
    tabOk (putT M) = true ∧ tabL (putT M) = M ∧ (putT M).length = 12 + 24 * M.length ∧ ∀ i e, M[i]? = some e → ((putT M).drop (8 + 24 * i)).take 24 = putEnt e := by
  have hm' := hm
  unfold mayT at hm'
  rw [Bool.and_eq_true] at hm'
  obtain ⟨hs, ha⟩ := hm'
  have hput : putT M = sealL (rawT M) := by unfold putT; rw [hm, if_pos rfl]
  have hbl := length_bodyT ha
  have hh : (headT M.length).length = 8 := by simp [headT]
  have hlen : (putT M).length = 12 + 24 * M.length := by
    rw [hput, sealL_length]; unfold rawT; rw [List.length_append, hbl, hh]; omega
  obtain ⟨z, hz⟩ : ∃ z, putT M = headT M.length ++ (bodyT M ++ z) := ⟨lowL (sumL (rawT M)), by rw [hput]; unfold sealL rawT; rw [List.append_assoc]⟩
  have hdrop : (putT M).drop 8 = bodyT M ++ z := by rw [hz, List.drop_left' hh]
  have hmany : manyT (putT M) = M.length := by unfold manyT; omega
  have hpar : parsedT (bodyT M ++ z) M.length = M := by
    refine List.ext_getElem (length_parsedT _ _) fun i h1 h2 => ?_
    have hi : M[i]? = some M[i] := List.getElem?_eq_getElem h2
    have hme : mayE M[i] = true := List.all_eq_true.1 ha _ (List.getElem_mem h2)
    simp only [parsedT, List.getElem_map, List.getElem_range]
    rw [(body_at ha hi z).1]
    exact (getE_put (ho _ (List.getElem_mem h2)) hme).2
  have hpo : partsOk (bodyT M ++ z) M.length = true := by
    unfold partsOk
    refine List.all_eq_true.2 fun i hi => ?_
    have h2 := List.mem_range.1 hi
    have hi : M[i]? = some M[i] := List.getElem?_eq_getElem h2
    have hme : mayE M[i] = true := List.all_eq_true.1 ha _ (List.getElem_mem h2)
    rw [(body_at ha hi z).1]
    exact (getE_put (ho _ (List.getElem_mem h2)) hme).1
  have hok : tabOk (putT M) = true := by
    unfold tabOk
    rw [hmany, hdrop, hpar, hpo, hm, hlen]
    simp
  refine ⟨hok, ?_, hlen, fun i e hi => ?_⟩
  · unfold tabL; rw [hok, if_pos rfl, hmany, hdrop, hpar]
  · rw [← List.drop_drop, hdrop]
    exact (body_at ha hi z).1

/-! what is made may be -/
theorem made_may (l : List Ent) : mayT (sortE (l.map modE)) = true ∧ (∀ e ∈ sortE (l.map modE), okE e) ∧ (sortE (l.map modE)).length ≤ l.length := by
  have hmem : ∀ e ∈ sortE (l.map modE), ∃ y, e = modE y := fun e he => by
    obtain ⟨y, -, rfl⟩ := List.mem_map.1 (mem_sortE.1 he); exact ⟨y, rfl⟩
  refine ⟨?_, fun e he => ?_, ?_⟩
  · unfold mayT
    rw [sortE_sorted, Bool.true_and]
    refine List.all_eq_true.2 fun e he => ?_
    obtain ⟨y, rfl⟩ := hmem e he
    unfold mayE modE
    exact decide_eq_true ⟨by simp only []; omega, by simp only []; omega⟩
  · obtain ⟨y, rfl⟩ := hmem e he
    exact okE_mod y
  · have h := sortE_length (l.map modE)
    rwa [List.length_map] at h
/-- A byte that is another one. -/
theorem spoilt_byte {M : List Ent} (hm : mayT M = true) (ho : ∀ e ∈ M, okE e) (hn : M.length ≤ 1000000) (k : Nat) (x d : UInt8) (hk : k < (putT M).length) (hx : (putT M)[k]? = some x) (hd : d ≠ 0) :
    tabE ((putT M).set k (x ^^^ d)) = 90 := by
  have hput : putT M = sealL (rawT M) := by unfold putT; rw [hm, if_pos rfl]
  have e1 : (putT M).set k (x ^^^ d) = turnL (putT M) k [d] := by
    have hx' : (putT M)[k] = x := by rw [List.getElem?_eq_getElem hk, Option.some.injEq] at hx; exact hx
    unfold turnL
    rw [List.set_eq_take_append_cons_drop, if_pos hk, List.drop_eq_getElem_cons hk, hx']
    simp [zipx, zipx_nil]
  have h2 := turned_one (rawT M) k d.toNat (by rw [← sealL_length, ← hput]; exact hk) d.toNat_lt (by intro h; exact hd (UInt8.toNat_inj.1 h))
  have e3 : UInt8.ofNat d.toNat = d := by simp
  rw [e3, ← hput, ← e1] at h2
  unfold tabE
  rcases h : tabOk ((putT M).set k (x ^^^ d)) with _ | _
  · rfl
  · have := (tab_parts h).2.2.2
    rw [h2] at this; cases this
theorem spoilt_cut {M : List Ent} (hm : mayT M = true) (ho : ∀ e ∈ M, okE e) (hn : M.length ≤ 1000000) (j : Nat) (hj : j < (putT M).length) : tabE ((putT M).take j) = 90 := by
  obtain ⟨t1, -, t3, -⟩ := tab_put hm ho hn
  unfold tabE
  rcases h : tabOk ((putT M).take j) with _ | _
  · rfl
  · exfalso
    have hp := (tab_parts h).1
    rw [List.length_take] at hp
    have := tab_head h t1 (by rw [List.take_take, Nat.min_eq_left (by omega)]) (by rw [List.length_take]; omega) (by omega)
    rw [List.length_take] at this; omega
theorem spoilt_more {M : List Ent} (hm : mayT M = true) (ho : ∀ e ∈ M, okE e) (hn : M.length ≤ 1000000) (x : UInt8) : tabE (putT M ++ [x]) = 90 := by
  obtain ⟨t1, -, t3, -⟩ := tab_put hm ho hn
  unfold tabE
  rcases h : tabOk (putT M ++ [x]) with _ | _
  · rfl
  · exfalso
    have := tab_head h t1 (by rw [List.take_append_of_le_length (by omega)]) (by rw [List.length_append, t3]; simp; omega) (by omega)
    rw [List.length_append] at this; simp at this
end Go.Proofs.Ytikodobglhjoiaa
