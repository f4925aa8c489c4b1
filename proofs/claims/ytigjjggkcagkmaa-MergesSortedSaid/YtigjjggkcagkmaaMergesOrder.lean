/-
  Rows.MergesOrderSaid: in which order sorted lists are, and whether some are merged ahead, makes no difference; nor does a list that comes twice.
-/
import Derived.Test.YtigjjggkcagkmaaMergeOne
import Derived.Test.YtigjjggkcagkmaaOpenLists
import Derived.Deep.RegionHeld3
namespace Go.Proofs.Ytigjjggkcagkmaa
open Go.RowKit
set_option linter.unusedVariables false

theorem lists_drop {w : World} {A : Option Addr} {n c : Nat} {ls : List (List Ent)} (h : Lists w (.slice A n c) ls) {k : Nat} (hk : k < n) : ∃ b off, A = some ⟨b, off, none⟩ ∧ Lists w (.slice (some ⟨b, off + k, none⟩) (n - k) (c - k)) (ls.drop k) := by
  obtain ⟨vs, h1, ⟨A0, c0, hv, q1, q2, q3, hcell⟩, hx⟩ := h
  simp only [Value.slice.injEq] at hv
  obtain ⟨rfl, rfl, rfl⟩ := hv
  obtain ⟨b, off, rfl, hlt, hc⟩ := hcell (by omega)
  refine ⟨b, off, rfl, vs.drop k, by rw [List.length_drop, List.length_drop, h1], ⟨some ⟨b, off + k, none⟩, c - k, by rw [List.length_drop], by rw [List.length_drop]; omega, by omega, by omega, fun _ => ⟨b, off + k, rfl, hlt, fun j hj => ?_⟩⟩, fun j x l hx1 hl => ?_⟩
  · rw [List.length_drop] at hj
    rw [Nat.add_assoc, hc (k + j) (by omega)]
    simp
  · rw [List.getElem?_drop] at hx1 hl
    exact hx (k + j) x l hx1 hl
theorem lists_take {w : World} {A : Option Addr} {n c : Nat} {ls : List (List Ent)} (h : Lists w (.slice A n c) ls) {k : Nat} (hk : k ≤ n) : Lists w (.slice A k c) (ls.take k) := by
  obtain ⟨vs, h1, ⟨A0, c0, hv, q1, q2, q3, hcell⟩, hx⟩ := h
  simp only [Value.slice.injEq] at hv
  obtain ⟨rfl, rfl, rfl⟩ := hv
  refine ⟨vs.take k, by rw [List.length_take, List.length_take, h1], ⟨A, c, by rw [List.length_take]; congr 1; omega, by rw [List.length_take]; omega, q2, by omega, fun h0 => ?_⟩, fun j x l hx1 hl => ?_⟩
  · rw [List.length_take] at h0
    obtain ⟨b, off, hA, hlt, hc⟩ := hcell (by omega)
    refine ⟨b, off, hA, hlt, fun j hj => ?_⟩
    rw [List.length_take] at hj
    rw [hc j (by omega)]
    simp
  · have hjk : j < k := by have := (List.getElem?_eq_some_iff.1 hl).1; rw [List.length_take] at this; omega
    rw [List.getElem?_take_of_lt hjk] at hx1 hl
    exact hx j x l hx1 hl
theorem rises (ls : List (List Ent)) : ∀ l ∈ ls.map rise, sortedE l = true := by
  intro l hl
  obtain ⟨x, -, rfl⟩ := List.mem_map.1 hl
  exact rise_sorted x
theorem merge_turned (rs : List (List Ent)) (k : Nat) (hs : ∀ l ∈ rs, sortedE l = true) : mergeL (rs.drop k ++ rs.take k) = mergeL rs := by
  refine mergeL_ext (fun l hl => hs l ?_) hs fun x => ?_
  · rcases List.mem_append.1 hl with h | h
    · exact List.mem_of_mem_drop h
    · exact List.mem_of_mem_take h
  · constructor
    · rintro ⟨l, hl, hx⟩
      refine ⟨l, ?_, hx⟩
      rcases List.mem_append.1 hl with h | h
      · exact List.mem_of_mem_drop h
      · exact List.mem_of_mem_take h
    · rintro ⟨l, hl, hx⟩
      refine ⟨l, ?_, hx⟩
      rw [← List.take_append_drop k rs] at hl
      rcases List.mem_append.1 hl with h | h
      · exact List.mem_append_right _ h
      · exact List.mem_append_left _ h
theorem merge_parts (rs : List (List Ent)) (k : Nat) (l0 : List Ent) (h0 : rs[k]? = some l0) (hs : ∀ l ∈ rs, sortedE l = true) : mergeL [mergeL (rs.take k), mergeL (rs.drop k), l0] = mergeL rs := by
  have h1 := mergeL_sorted (ls := rs.take k) fun l hl => hs l (List.mem_of_mem_take hl)
  have h2 := mergeL_sorted (ls := rs.drop k) fun l hl => hs l (List.mem_of_mem_drop hl)
  refine mergeL_ext (fun l hl => ?_) hs fun x => ?_
  · simp only [List.mem_cons, List.not_mem_nil, or_false] at hl
    rcases hl with rfl | rfl | rfl
    · exact h1.1
    · exact h2.1
    · exact hs _ (List.mem_of_getElem? h0)
  · constructor
    · rintro ⟨l, hl, hx⟩
      simp only [List.mem_cons, List.not_mem_nil, or_false] at hl
      rcases hl with rfl | rfl | rfl
      · obtain ⟨m, hm, hx⟩ := (h1.2 x).1 hx
        exact ⟨m, List.mem_of_mem_take hm, hx⟩
      · obtain ⟨m, hm, hx⟩ := (h2.2 x).1 hx
        exact ⟨m, List.mem_of_mem_drop hm, hx⟩
      · exact ⟨_, List.mem_of_getElem? h0, hx⟩
    · rintro ⟨l, hl, hx⟩
      rw [← List.take_append_drop k rs] at hl
      rcases List.mem_append.1 hl with h | h
      · exact ⟨_, by simp, (h1.2 x).2 ⟨l, h, hx⟩⟩
      · exact ⟨mergeL (rs.drop k), by simp, (h2.2 x).2 ⟨l, h, hx⟩⟩
theorem merge_again (rs : List (List Ent)) (hs : ∀ l ∈ rs, sortedE l = true) : mergeL [mergeL rs] = mergeL rs := by
  have h1 := mergeL_sorted hs
  refine mergeL_ext (fun l hl => ?_) hs fun x => ?_
  · rw [List.mem_singleton.1 hl]; exact h1.1
  · constructor
    · rintro ⟨l, hl, hx⟩
      rw [List.mem_singleton.1 hl] at hx
      exact (h1.2 x).1 hx
    · intro h
      exact ⟨_, by simp, (h1.2 x).2 h⟩
theorem total_append (a b : List (List Ent)) : totalM (a ++ b) = totalM a + totalM b := by unfold totalM; rw [List.map_append, List.sum_append]
theorem total_split (rs : List (List Ent)) (k : Nat) : totalM (rs.take k) + totalM (rs.drop k) = totalM rs := by rw [← total_append, List.take_append_drop]

theorem Own2.reads {w : World} {base : Nat} {v : Value} {ls : List (List Ent)} {vs : List Value} (h : Own2 w base v ls vs) : Reads w v 1 vs.length vs := by have := Reads.of_own h.2.1; rw [← h.1] at this; exact this
/-- What is appended of lists, one row behind another. -/
theorem lists_mk {w : World} {base : Nat} {A : Option Addr} {n c : Nat} {ls : List (List Ent)} {vs : List Value} (hown : w.ownsRow base 36 1 (.slice A n c) n vs) (hl : vs.length = ls.length) (hn : ls.length = n) (hx : ∀ (k : Nat) (x : Value) (l : List Ent), vs[k]? = some x → ls[k]? = some l → Ents w x l) : Lists w (.slice A n c) ls :=
  ⟨vs, hl, by rw [hl, hn]; exact Reads.of_own hown, hx⟩
theorem turned_ents {w : World} {vs : List Value} {ls : List (List Ent)} {k : Nat} (hl : vs.length = ls.length) (hk : k ≤ ls.length) (h : ∀ (k : Nat) (x : Value) (l : List Ent), vs[k]? = some x → ls[k]? = some l → Ents w x l) :
    ∀ (j : Nat) (x : Value) (l : List Ent), (vs.drop k ++ vs.take k)[j]? = some x → (ls.drop k ++ ls.take k)[j]? = some l → Ents w x l := by
  intro j x l hx hy
  rcases Nat.lt_or_ge j (ls.length - k) with h1 | h1
  · rw [List.getElem?_append_left (by rw [List.length_drop]; omega), List.getElem?_drop] at hx hy
    exact h (k + j) x l hx hy
  · rw [List.getElem?_append_right (by rw [List.length_drop]; omega), List.length_drop] at hx hy
    rw [hl] at hx
    have hlt : j - (ls.length - k) < k := by have := (List.getElem?_eq_some_iff.1 hy).1; rw [List.length_take] at this; omega
    rw [List.getElem?_take_of_lt hlt] at hx hy
    exact h _ x l hx hy
theorem own_vals {w : World} {vs : List Value} {ls : List (List Ent)} (hl : vs.length = ls.length) (h : ∀ (k : Nat) (x : Value) (l : List Ent), vs[k]? = some x → ls[k]? = some l → Ents w x l) : ∀ u ∈ vs, u.oneCell' = true := by
  intro u hu
  obtain ⟨k, hk, rfl⟩ := List.getElem_of_mem hu
  obtain ⟨⟨A', c', hv', -⟩, -⟩ := h k _ (ls[k]'(by omega)) (List.getElem?_eq_getElem hk) (List.getElem?_eq_getElem (by omega))
  rw [hv']; rfl
theorem lists_turned {w : World} {base n k : Nat} {v : Value} {vs : List Value} {rs : List (List Ent)} (hown : w.ownsRow base 36 1 v (0 + (n - k) + k) ([] ++ vs.drop k ++ vs.take k)) (hv : vs.length = n) (hr : rs.length = n) (hk : k ≤ n) (hx : ∀ (k : Nat) (x : Value) (l : List Ent), vs[k]? = some x → rs[k]? = some l → Ents w x l) : Lists w v (rs.drop k ++ rs.take k) := by
  refine ⟨vs.drop k ++ vs.take k, by simp [hv, hr], ?_, turned_ents (by omega) (by omega) hx⟩
  have e : (vs.drop k ++ vs.take k).length = 0 + (n - k) + k := by simp [hv]; omega
  rw [e]
  exact Reads.of_own (by simpa using hown)
theorem reads_dropV {w : World} {b off n c k : Nat} {vs : List Value} (h : Reads w (.slice (some ⟨b, off, none⟩) n c) 1 n vs) (hk : k < n) : Reads w (.slice (some ⟨b, off + k, none⟩) (n - k) (c - k)) 1 (n - k) (vs.drop k) := by
  obtain ⟨A0, c0, hv, q1, q2, q3, hcell⟩ := h
  cases hv
  obtain ⟨b', off', hA, hlt, hc⟩ := hcell (by omega)
  cases hA
  refine ⟨_, _, rfl, by omega, by omega, by simp [q3], fun _ => ⟨b, off + k, rfl, hlt, fun j hj => ?_⟩⟩
  rw [List.length_drop] at hj
  rw [Nat.add_assoc, hc (k + j) (by omega)]
  simp
theorem reads_takeV {w : World} {A : Option Addr} {n c k : Nat} {vs : List Value} (h : Reads w (.slice A n c) 1 n vs) (hk : k ≤ n) : Reads w (.slice A k c) 1 k (vs.take k) := by
  obtain ⟨A0, c0, hv, q1, q2, q3, hcell⟩ := h
  cases hv
  refine ⟨_, _, rfl, by omega, by omega, by simp [q3]; omega, fun h0 => ?_⟩
  obtain ⟨b', off', hA, hlt, hc⟩ := hcell (by omega)
  refine ⟨b', off', hA, hlt, fun j hj => ?_⟩
  rw [List.length_take] at hj
  rw [hc j (by omega)]
  simp
set_option maxRecDepth 4000 in
set_option maxHeartbeats 4000000 in
theorem MergesOrder_walk (v : Value) (ls : List (List Ent)) (bi : Int) (w : World) (h : Lists w v ls) (hbi : 0 ≤ bi ∧ bi ≤ 255) :
    Calls Try.prog 8 #[v, .int .u8 bi] w fun e w' => e = .returned (.bool true) ∧ Below w.heap.size w w' := by
  obtain ⟨A, c, rfl, hc1, hc2⟩ := h.head
  unfold maxLen at hc2
  have hg := law_great (.slice A ls.length c) ls w h
  have hrz : greatM ls = false → ls.length ≤ 1000 ∧ totalM ls ≤ 1000000 := fun hgm => by
    obtain ⟨h1, -, h2⟩ := greatM_no hgm
    exact ⟨by omega, by omega⟩
  have hri := fun hgm w' hb => law_rising (.slice A ls.length c) ls w' (h.next hb) (hrz hgm).1 (hrz hgm).2
  have htt : greatM ls = false → ls.length ≤ 12 ∧ totalM (ls.map rise) ≤ 720 := fun hgm => by
    obtain ⟨h1, -, h2⟩ := greatM_no hgm
    have := total_rise ls
    exact ⟨by omega, by omega⟩
  have hrs := rises ls
  have hrl : (ls.map rise).length = ls.length := by simp
  generalize ls.map rise = rs at hri htt hrs hrl
  obtain ⟨n, hn⟩ : ∃ n, n = ls.length := ⟨_, rfl⟩
  rw [← hn] at hc1 hg htt hrl ⊢
  simp only [← hn] at hri
  generalize greatM ls = gm at hg hri hrz htt
  obtain ⟨bn, rfl⟩ : ∃ b : Nat, bi = (b : Int) := ⟨bi.toNat, by omega⟩
  clear h hn hrz
  rcases gm with _ | _
  · obtain ⟨hl12, htot⟩ := htt rfl
    have ri := hri rfl
    clear htt hri
    rcases Nat.eq_zero_or_pos n with hn0 | hn0
    · subst hn0
      clear ri hrs hrl
      go_enter Try.func8, Try.ntmps8
      go_wp2_with fail
      refine hg.mono ?_
      rintro e w1 ⟨rfl, hb1⟩
      go_wp2_with fail
      refine (law_one w1).mono ?_
      rintro e w2 ⟨rfl, hb2⟩
      go_wp2
      go_ret
      exact ⟨rfl, below_chain hb1 hb2⟩
    · have d0 : (0 : Int) < (n : Int) := by omega
      obtain ⟨k, hk⟩ : ∃ k, k = bn % n := ⟨_, rfl⟩
      have hkn0 : k < n := by rw [hk]; exact Nat.mod_lt _ hn0
      have hkn : k ≤ n := by omega
      have wk1 : ((bn : Int) % (n : Int)) = (k : Int) := by rw [hk]; simp
      have wk2 : Int.tmod (bn : Int) (n : Int) = (k : Int) := by rw [Int.tmod_eq_emod_of_nonneg (by omega)]; exact wk1
      have nz : ¬ (n : Int) = 0 := by omega
      have nzb : ((n : Int) == 0) = false := by simp; omega
      have kn : (k : Int) ≤ n := by omega
      have kn2 : (k : Int) < n := by omega
      have Hk := Lib.hid hk
      have Hrs := Lib.hid hrs
      have Hrl := Lib.hid hrl
      obtain ⟨j0, gj0, gz0, gz1, gz2⟩ := info_parts infoListM
      clear hk hrs hrl
      go_enter Try.func8, Try.ntmps8
      go_wp2_with fail
      refine hg.mono ?_
      rintro e w1 ⟨rfl, hb1⟩
      clear hg
      go_wp2_with fail
      refine (ri w1 hb1).mono ?_
      rintro e w2 ⟨A2, c2, rfl, ⟨vs, hown2⟩, hb2⟩
      have hbw2 := below_chain hb1 hb2
      obtain ⟨hvl, hown, hxe⟩ := id hown2
      rw [Hrl.out] at hvl hown
      rcases id hown.2 with ⟨hz, -⟩ | ⟨g, cap, cur, hvg, hbs, hgg, hnc, hcm, hcs, htk⟩
      · exact absurd (by simpa using congrArg (fun v => match v with | .slice _ n _ => n | _ => 0) hz) (by omega : ¬ n = 0)
      · simp only [Value.slice.injEq] at hvg
        obtain ⟨rfl, -, rfl⟩ := hvg
        have hL2 := hown2.lists
        have ho1 := own_vals (by rw [Hrl.out]; exact hvl) (fun k x l hx hl => (hxe k x l hx hl).1)
        have hone1 : ∀ u ∈ vs.drop k, u.oneCell' = true := fun u hu => ho1 u (List.mem_of_mem_drop hu)
        have hone2 : ∀ u ∈ vs.take k, u.oneCell' = true := fun u hu => ho1 u (List.mem_of_mem_take hu)
        have ck : ¬ c2 = k := by omega
        have kc : (k : Int) ≤ c2 := by omega
        have kc2 : k < c2 := by omega
        unfold maxLen at hcm
        have Hxe := Lib.hid (fun k x l hx hl => (hxe k x l hx hl).1)
        have HL2 := Lib.hid hL2
        have Hvl := Lib.hid hvl
        have hrow := Row.of_own hown
        have hrd : Reads w2 (.slice (some ⟨g, 0, none⟩) n c2) 1 n vs := Reads.of_own hown
        have t1 := total_split rs k
        obtain ⟨M, hM⟩ : ∃ M, mergeL rs = M := ⟨_, rfl⟩
        obtain ⟨M1, hM1⟩ : ∃ M, mergeL (rs.take k) = M := ⟨_, rfl⟩
        obtain ⟨M2, hM2⟩ : ∃ M, mergeL (rs.drop k) = M := ⟨_, rfl⟩
        obtain ⟨lk, hlk⟩ : ∃ l, rs[k]? = some l := ⟨_, List.getElem?_eq_getElem (by have := Hrl.out; omega)⟩
        have mT := (merge_turned rs k Hrs.out).trans hM
        have mP := (merge_parts rs k lk hlk Hrs.out).trans hM
        have mA := (merge_again rs Hrs.out).trans hM
        rw [hM1, hM2] at mP
        rw [hM] at mA
        have lM : M.length ≤ totalM rs := by rw [← hM]; exact mergeL_len rs
        have lM1 : M1.length ≤ totalM (rs.take k) := by rw [← hM1]; exact mergeL_len _
        have lM2 : M2.length ≤ totalM (rs.drop k) := by rw [← hM2]; exact mergeL_len _
        have lk1 : lk.length ≤ totalM rs := total_mem (List.mem_of_getElem? hlk)
        have cM := fun w' hb => ex_Merge (.slice (some ⟨g, 0, none⟩) n c2) rs M M.length w' (HL2.out.next hb) (by have := Hrl.out; omega) (by omega) hM rfl
        have cT := fun v w' hl => ex_Merge v (rs.drop k ++ rs.take k) M M.length w' hl (by have := Hrl.out; simp; omega) (by rw [total_append]; omega) mT rfl
        have cM1 := fun w' hb => ex_Merge (.slice (some ⟨g, 0, none⟩) k c2) (rs.take k) M1 M1.length w' ((lists_take HL2.out hkn).next hb) (by have := Hrl.out; simp; omega) (by omega) hM1 rfl
        have cM2 := fun w' (hb : Below w2.heap.size w2 w') => ex_Merge (.slice (some ⟨g, k, none⟩) (n - k) (c2 - k)) (rs.drop k) M2 M2.length w' (by obtain ⟨b', o', he, hd⟩ := lists_drop HL2.out hkn0; cases he; rw [Nat.zero_add] at hd; exact hd.next hb) (by have := Hrl.out; simp; omega) (by omega) hM2 rfl
        have cP := fun v w' hl => ex_Merge v [M1, M2, lk] M M.length w' hl (by simp) (by unfold totalM; simp; omega) mP rfl
        have cA := fun v w' hl => ex_Merge v [M] M M.length w' hl (by simp) (by unfold totalM; simp; omega) mA rfl
        obtain ⟨b', off', Ak, ck', hAk, hcellk, hEk, q1, q2⟩ := HL2.out.at hlk
        cases hAk
        rw [Nat.zero_add] at hcellk
        have hEt := fun w' (hb : Below w2.heap.size w2 w') => show ∀ (k : Nat) (x : Value) (l : List Ent), vs[k]? = some x → rs[k]? = some l → Ents w' x l from fun k x l hx hl => (Hxe.out k x l hx hl).next hb
        have hR1 := fun w' (hb : Below w2.heap.size w2 w') => (show Reads w' (.slice (some ⟨g, k, none⟩) (n - k) (c2 - k)) 1 (n - k) (vs.drop k) from by have := reads_dropV (hrd.next hb) hkn0; rw [Nat.zero_add] at this; exact this)
        have hR2 := fun w' (hb : Below w2.heap.size w2 w') => reads_takeV (hrd.next hb) hkn
        have X := Lib.hid (And.intro hM (And.intro hM1 (And.intro hM2 (And.intro hlk (And.intro mT (And.intro mP mA))))))
        clear hown2 hown hxe hL2 hvl hgg hcs htk hbs ri hb1 hb2 ho1 hrow hM hM1 hM2 hlk mT mP mA hrd t1 lM lM1 lM2 lk1
        have CM := Lib.hid cM
        have CT := Lib.hid cT
        have CP := Lib.hid cP
        have CA := Lib.hid cA
        have HEk := Lib.hid hEk
        clear cM cT cP cA hEk
        go_wp2_with fail
        refine (CM.out w2 (Below.refl _ _)).mono ?_
        rintro e w3 ⟨A3, c3, rfl, hE3, hb3⟩
        clear CM
        go_wp2_with fail
        have D3 : Below w3.heap.size w3 w3.drew := (Below.refl _ _).drew
        have D0 : Below w2.heap.size w2 w3.drew := hb3.drew
        go_region_held3 (fun _ => True) (trivial)
          (first
            | (go_at_call 26; refine (CT.out v5 w5 E5).mono ?_; rintro e w6 ⟨A6, c6, rfl, hE6, hb6⟩)
            | (refine step_append_reads rfl _ _ 34 rfl w3.heap.size 36 j0 _ 1 24 Try.underlying34 gj0 gz0 gz1 gz2 rfl (by decide) v4 _ _ rfl ho4 _ k (vs.take k) rfl (hR2 _ (below_chain hb3 q4)) hone2 (by unfold maxLen; omega) (by omega) q4.size ?_; intro v5 w5 ho5 hg5; have q5 : Below w3.heap.size w3 w5 := q4.grown hg5 q4.size (own_block_ge ho4); have E5 := lists_turned ho5 Hvl.out Hrl.out hkn (hEt w5 (below_chain hb3 q5)))
            | (refine step_append_reads rfl _ _ 34 rfl w3.heap.size 36 j0 _ 1 24 Try.underlying34 gj0 gz0 gz1 gz2 rfl (by decide) (.slice none 0 0) 0 [] rfl (World.ownsRow_nil _ _ _ _) _ (n - k) (vs.drop k) rfl (hR1 _ D0) hone1 (by unfold maxLen; omega) (by omega) D3.size ?_; intro v4 w4 ho4 hg4; have q4 : Below w3.heap.size w3 w4 := D3.grown hg4 D3.size (by intro k hk; cases hk))
            | fail)
        have q6 := below_chain q5 hb6
        have B26 := below_chain hb3 q6
        have D6 : Below w2.heap.size w2 w6.drew := B26.drew
        have F6 : Below w6.heap.size w6 w6.drew := (Below.refl _ _).drew
        have HE3 := Lib.hid (hE3.next q6)
        have HE6 := Lib.hid hE6
        clear ho4 hg4 q4 ho5 hg5 q5 E5 CT hR1 hR2 hEt hone1 hone2 hE3 hE6 D0 D3
        go_wp2_with fail
        go_region_held3 (fun w' => w'.cell? ⟨g, k, none⟩ = some (.slice Ak lk.length ck')) (first | exact hcellk _ D6 | exact hcellk _ k7 | exact hcellk _ k8 | exact hcellk _ (below_chain k8 (belowLitM _ _)) | exact hcellk _ (below_chain (below_chain k8 (belowLitM _ _)) hb9) | fail)
          (first
            | (go_at_call 26; refine (CP.out _ _ (lists_lit w8 _ _ rfl #[.slice A7 M1.length c7, .slice A8 M2.length c8, .slice Ak lk.length ck'] [M1, M2, lk] 3 rfl rfl rfl (by omega) (three_ents (hE7.next hb8) hE8 (HEk.out.next k8)))).mono ?_; rintro e w9 ⟨A9, c9, rfl, hE9, hb9⟩)
            | (go_at_call 26; refine (cM2 _ k7).mono ?_; rintro e w8 ⟨A8, c8, rfl, hE8, hb8⟩; have k8 : Below w2.heap.size w2 w8 := below_chain k7 hb8)
            | (go_at_call 26; refine (cM1 _ D6).mono ?_; rintro e w7 ⟨A7, c7, rfl, hE7, hb7⟩; have k7 : Below w2.heap.size w2 w7 := below_chain D6 hb7)
            | fail)
        have b69 := below_chain (below_chain (below_chain (below_chain F6 hb7) hb8) (belowLitM w8 (.cells #[.slice A7 M1.length c7, .slice A8 M2.length c8, .slice Ak lk.length ck'] 36))) hb9
        have B29 := below_chain B26 b69
        have G3 := Lib.hid (HE3.out.next b69)
        have G6 := Lib.hid (HE6.out.next b69)
        have G9 := Lib.hid hE9
        have BW := below_chain hbw2 B29
        clear HE3 HE6 hE9 hE7 hE8 hb7 hb8 hb9 k7 k8 F6 D6 B26 q6 b69 B29 CP cM1 cM2 hcellk HEk hb3 hb6
        go_wp2_with fail
        refine (ex_Same _ _ M M true w9 G3.out G6.out (by simp)).mono ?_
        rintro e w10 ⟨rfl, hb10⟩
        go_wp2_with fail
        refine (ex_Same _ _ M M true w10 (G3.out.next hb10) (G9.out.next hb10) (by simp)).mono ?_
        rintro e w11 ⟨rfl, hb11⟩
        have b911 := below_chain hb10 hb11
        have K3 := Lib.hid (G3.out.next b911)
        clear G3 G6 G9
        go_wp2_with fail
        refine (CA.out _ _ (lists_lit w11 _ _ rfl #[.slice A3 M.length c3] [M] 1 rfl rfl rfl (by omega) (one_ents K3.out))).mono ?_
        rintro e w12 ⟨A12, c12, rfl, hE12, hb12⟩
        have b1112 := below_chain (belowLitM w11 (.cells #[.slice A3 M.length c3] 36)) hb12
        go_wp2_with fail
        refine (ex_Same _ _ M M true w12 hE12 (K3.out.next b1112) (by simp)).mono ?_
        rintro e w13 ⟨rfl, hb13⟩
        go_wp2_with fail
        refine (law_one w13).mono ?_
        rintro e w14 ⟨rfl, hb14⟩
        go_wp2
        go_ret
        exact ⟨rfl, below_chain BW (below_chain b911 (below_chain b1112 (below_chain hb13 hb14)))⟩
  · go_enter Try.func8, Try.ntmps8
    clear htt hri
    go_wp2_with fail
    refine hg.mono ?_
    rintro e w1 ⟨rfl, hb1⟩
    go_wp2_with fail
    refine (law_one w1).mono ?_
    rintro e w2 ⟨rfl, hb2⟩
    go_wp2
    go_ret
    exact ⟨rfl, below_chain hb1 hb2⟩
end Go.Proofs.Ytigjjggkcagkmaa
