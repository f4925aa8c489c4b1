/-
  A REGION THAT DRAWS ITS ORDER, IN THE BODY OF A LOOP OVER AN ITERATOR (the fence has a round): one walk in the order of the text serves every order, also where a last operation, behind all others, writes.
-/
import Derived.Test.YtpoeginnoocenaaPlain
import Derived.Sort.QuietIn
import Derived.Sort.QuietThIn
import Derived.BigRegionIn
import Derived.Shelf.RegionOpen
import Derived.WalkKit
import Derived.OwnWalkIn
import Derived.TacticsInMore
namespace Go.Proofs.Ytpoeginnoocenaa
open Go.RowKit
set_option linter.unusedVariables false

section
variable {F : Fence} {n : Nat} {P : Program}
theorem op_round {o : Oper} {a : Act} {w : World} {K : Act → World → Prop} {Q : Exit → Act → World → Prop} (l : Nat) (hd : ∀ c, o.op ≠ .defer c) (h : o.wpIn F n P a w K Q) : o.wpIn (F.inRound l) n P a w K Q := by
  unfold Oper.wpIn at *
  rw [Oper.semAt_eq _ _ _ hd] at *
  exact h
/-- No operation defers, none is guarded. -/
def bareB (l : List Oper) : Bool := l.all fun o => (match o.op with | .defer _ => false | _ => true) && o.guard.isNone
theorem bareB_spec {l : List Oper} (h : bareB l = true) {o : Oper} (ho : o ∈ l) : (∀ c, o.op ≠ .defer c) ∧ o.guard = none := by
  have := List.all_eq_true.1 h o ho
  rw [Bool.and_eq_true] at this
  refine ⟨fun c hc => ?_, by simpa using this.2⟩
  rw [hc] at this
  exact absurd this.1 (by simp)
theorem wanted_bare {o : Oper} (h : o.guard = none) (ops : Array Oper) (t : Array Value) : Region.wanted o (yielded ops t) = true := by unfold Region.wanted; rw [h]

/-- Of no operation that writes: every order. -/
theorem any_round {md : Region.Mode} {l : List Oper} {Q : Exit → Act → World → Prop} (r : Nat) (hb : bareB l = true) : ∀ (fuel : Nat) (listed : Array Bool) (a : Act) (w : World),
    wpAnyIn F n P md l.toArray Q fuel listed a w → wpAnyIn (F.inRound r) n P md l.toArray Q fuel listed a w
  | 0, _, _, _, h => h
  | fuel + 1, listed, a, w, h => by
    refine ⟨h.1, fun i hi => ?_⟩
    have h2 := h.2 i hi
    unfold wpOpIn at *
    rcases ho : l.toArray[i]? with _ | o
    · simp only [ho] at h2 ⊢
      exact any_round r hb fuel _ _ _ h2
    · simp only [ho] at h2 ⊢
      have hm : o ∈ l := by have := List.mem_of_getElem? (by simpa using ho : l[i]? = some o); exact this
      obtain ⟨hd, hg⟩ := bareB_spec hb hm
      rw [if_pos (wanted_bare hg _ _)] at h2 ⊢
      exact op_round r hd (Oper.wpIn_mono (fun a w h => any_round r hb fuel _ _ _ h) h2)
theorem region_quiet_round {id : Nat} {Q : Exit → Act → World → Prop} {a : Act} {w : World} {l : List Oper} (r : Nat) (hro : F.round = none) (hb : bareB l = true) (hm : P.follows .mixedOrders = true) (hB : Region.lexB .any l.toArray = true)
    (h : wpQuietIn F n P l.toArray (fun w' => ∃ n, w' = w.drewN n) (fun a' => ∀ w', (∃ n, w' = w.drewN n) → Q .normal a' w') l a) : (Code.region id l.toArray true).wpIn (F.inRound r) n P Q a w := by
  simp only [Region.lexB, Bool.and_eq_true] at hB
  refine wpIn_region_any hm (any_round r hb _ _ _ _ ?_)
  refine wpAnyIn_of_quiet (C := fun w' => ∃ n, w' = w.drewN n) (Q := fun a' => ∀ w', (∃ n, w' = w.drewN n) → Q .normal a' w') hro (fun _ w' hw' h => h w' hw') _ _ _ _ ⟨1, rfl⟩ ?_
  have := wpAnyQIn_lex (F := F) (n := n) (C := fun w' => ∃ n, w' = w.drewN n) (md := .any) hB.1 l 0 (Array.replicate l.toArray.size false) a (by simp) (by simpa using hB.2) h
  simpa using this
end

/-! ### A last operation that writes -/
def boolLists : Nat → List (List Bool)
  | 0 => [[]]
  | k + 1 => (boolLists k).flatMap fun l => [false :: l, true :: l]
theorem mem_boolLists : ∀ l : List Bool, l ∈ boolLists l.length
  | [] => by simp [boolLists]
  | b :: l => by
    simp only [List.length_cons, boolLists, List.mem_flatMap]
    exact ⟨l, mem_boolLists l, by cases b <;> simp⟩
def closedB (md : Region.Mode) (ops : Array Oper) (l : List Bool) : Bool :=
  (List.range ops.size).all fun i => !(l.getD i false) || ((ops[i]?).map (·.after.all fun e => !Region.binds md e || l.getD e.on false)).getD false
def lastB (md : Region.Mode) (ops' ops : Array Oper) (k : Nat) (l : List Bool) : Bool :=
  !closedB md ops' l || (if l.all id then (Region.ready md ops (l ++ [false]).toArray == [k]) && (Region.ready md ops (l ++ [true]).toArray == [])
    else (Region.ready md ops (l ++ [false]).toArray == Region.ready md ops' l.toArray) && !(Region.ready md ops' l.toArray).isEmpty &&
      (Region.ready md ops' l.toArray).all fun i => closedB md ops' (l.set i true) && decide (i < k) && !(l.getD i true))

section
variable {F : Fence} {n : Nat} {P : Program}
/-- What is asked where all others are carried out. -/
def lastPost (F : Fence) (n : Nat) (P : Program) (ops : Array Oper) (last : Oper) (Q : Exit → Act → World → Prop) : Exit → Act → World → Prop
  | .normal, a, w => wpListIn F n P ops Q [last] a w
  | e, a, w => Q e a w
theorem set_count (l : List Bool) (i : Nat) (hi : i < l.length) (h : l.getD i true = false) : (l.set i true).count false + 1 = l.count false := by
  have h1 : l[i] = false := by rw [List.getD_eq_getElem?_getD, List.getElem?_eq_getElem hi] at h; exact h
  have hc := List.count_set (a := true) (b := false) hi
  have hpos : 0 < l.count false := List.count_pos_iff.2 (h1 ▸ List.getElem_mem hi)
  rw [hc, h1]; simp; omega

theorem last_upon {ops : Array Oper} {last o : Oper} {Q : Exit → Act → World → Prop} {K : Act → World → Prop} {a : Act} {w : World} (h : o.wpIn F n P a w K (lastPost F n P ops last Q)) : o.wpIn F n P a w K Q := by
  unfold Oper.wpIn at *
  refine ⟨h.1, ?_⟩
  have h3 := h.2
  generalize (o.semAt F.round a.eval).run P w = res at h3 ⊢
  rcases res with ⟨x, w'⟩ | ⟨x, w'⟩
  · cases x <;> simp only [Oper.uponIn] at h3 ⊢
    all_goals first
      | exact h3
      | exact ⟨h3.1, h3.2.mono fun e w'' he => by cases e <;> exact he⟩
  · cases x <;> simp only [Oper.uponIn] at h3 ⊢
    all_goals exact h3
theorem any_last {md : Region.Mode} {l : List Oper} {last : Oper} {Q : Exit → Act → World → Prop} (r : Nat) (hb : bareB (l ++ [last]) = true)
    (hck : (boolLists l.length).all (lastB md l.toArray (l ++ [last]).toArray l.length) = true) : ∀ (fuel : Nat) (t : List Bool) (a : Act) (w : World), t.length = l.length → t.count false = fuel → closedB md l.toArray t = true →
    wpAnyIn F n P md l.toArray (lastPost F n P (l ++ [last]).toArray last Q) fuel t.toArray a w → wpAnyIn (F.inRound r) n P md (l ++ [last]).toArray Q (fuel + 1) (t ++ [false]).toArray a w := by
  intro fuel
  induction fuel with
  | zero =>
    intro t a w ht hc hcl h
    have hall : t.all id = true := by
      rw [List.all_eq_true]
      intro b hbm
      cases b with
      | true => rfl
      | false => have := List.count_pos_iff.2 hbm; omega
    have hk := List.all_eq_true.1 hck t (ht ▸ mem_boolLists t)
    unfold lastB at hk
    rw [hcl, hall] at hk
    simp only [Bool.not_true, Bool.false_or, if_true, Bool.and_eq_true, beq_iff_eq] at hk
    obtain ⟨hk1, hk2⟩ := hk
    have h2 := h.2
    unfold lastPost at h2
    simp only [] at h2
    refine ⟨fun h0 => absurd (hk1.symm.trans h0) (by simp), fun i hi => ?_⟩
    rw [hk1] at hi
    obtain rfl := List.mem_singleton.1 hi
    have hset : (t ++ [false]).toArray.setIfInBounds l.length true = (t ++ [true]).toArray := by
      rw [List.setIfInBounds_toArray, List.set_append_right _ _ (by omega), ht, Nat.sub_self]; rfl
    unfold wpOpIn
    have ho : (l ++ [last]).toArray[l.length]? = some last := by simp
    simp only [ho]
    obtain ⟨hd, hg⟩ := bareB_spec hb (List.mem_append_right l (List.mem_singleton.2 rfl))
    rw [if_pos (wanted_bare hg _ _), hset]
    unfold wpListIn at h2
    rw [if_pos (wanted_bare hg _ _)] at h2
    refine op_round r hd (Oper.wpIn_mono (fun a w h => ?_) h2)
    exact ⟨hk2, h⟩
  | succ fuel ih =>
    intro t a w ht hc hcl h
    have hall : t.all id = false := by
      rcases ha : t.all id with _ | _
      · rfl
      · exfalso
        have hpos : 0 < t.count false := by omega
        have := List.all_eq_true.1 ha false (List.count_pos_iff.1 hpos)
        cases this
    have hk := List.all_eq_true.1 hck t (ht ▸ mem_boolLists t)
    unfold lastB at hk
    rw [hcl, hall] at hk
    simp only [Bool.not_true, Bool.false_or, Bool.false_eq_true, if_false, Bool.and_eq_true, beq_iff_eq, Bool.not_eq_true', List.all_eq_true, decide_eq_true_eq] at hk
    obtain ⟨⟨hk1, hk2⟩, hk3⟩ := hk
    refine ⟨fun h0 => ?_, fun i hi => ?_⟩
    · rw [hk1] at h0; rw [h0] at hk2; cases hk2
    · rw [hk1] at hi
      obtain ⟨⟨c1, c2⟩, c3⟩ := hk3 i hi
      have h2 := h.2 i hi
      unfold wpOpIn at *
      have hi' : (l ++ [last]).toArray[i]? = l.toArray[i]? := by simp [List.getElem?_append_left c2]
      rw [hi']
      have ho : l.toArray[i]? = some l[i] := by simp [List.getElem?_eq_getElem c2]
      simp only [ho] at h2 ⊢
      obtain ⟨hd, hg⟩ := bareB_spec hb (List.mem_append_left [last] (List.getElem_mem c2))
      rw [if_pos (wanted_bare hg _ _)] at h2 ⊢
      have hset : (t ++ [false]).toArray.setIfInBounds i true = (t.set i true ++ [false]).toArray := by
        rw [List.setIfInBounds_toArray, List.set_append_left _ _ (by omega)]
      have hset2 : t.toArray.setIfInBounds i true = (t.set i true).toArray := by rw [List.setIfInBounds_toArray]
      rw [hset]
      rw [hset2] at h2
      refine op_round r hd (Oper.wpIn_mono (fun a w h => ih (t.set i true) a w (by simp [ht]) ?_ c1 h) ?_)
      · have := set_count t i (by omega) c3; omega
      · exact last_upon h2
theorem closedB_start (md : Region.Mode) (ops : Array Oper) (k : Nat) : closedB md ops (List.replicate k false) = true := by
  unfold closedB
  rw [List.all_eq_true]
  intro i _
  have : (List.replicate k false).getD i false = false := by
    rw [List.getD_eq_getElem?_getD, List.getElem?_replicate]; split <;> rfl
  rw [this]; rfl
theorem region_last_round {id : Nat} {Q : Exit → Act → World → Prop} {a : Act} {w : World} {l : List Oper} {last : Oper} (r : Nat) (hro : F.round = none) (hb : bareB (l ++ [last]) = true) (hm : P.follows .mixedOrders = true) (hB : Region.lexB .any l.toArray = true)
    (hck : (boolLists l.length).all (lastB .any l.toArray (l ++ [last]).toArray l.length) = true)
    (h : wpQuietIn F n P l.toArray (fun w' => ∃ n, w' = w.drewN n) (fun a' => ∀ w', (∃ n, w' = w.drewN n) → wpListIn F n P (l ++ [last]).toArray Q [last] a' w') l a) : (Code.region id (l ++ [last]).toArray true).wpIn (F.inRound r) n P Q a w := by
  simp only [Region.lexB, Bool.and_eq_true] at hB
  refine wpIn_region_any hm ?_
  have hq := wpAnyQIn_lex (F := F) (n := n) (C := fun w' => ∃ n, w' = w.drewN n) (md := .any) hB.1 l 0 (Array.replicate l.toArray.size false) a (by simp) (by simpa using hB.2) h
  have hq2 : wpAnyIn F n P .any l.toArray (lastPost F n P (l ++ [last]).toArray last Q) l.length (List.replicate l.length false).toArray a { w with drawn := w.drawn + 1 } := by
    have := wpAnyIn_of_quiet (C := fun w' => ∃ n, w' = w.drewN n) (Q := fun a' => ∀ w', (∃ n, w' = w.drewN n) → wpListIn F n P (l ++ [last]).toArray Q [last] a' w') (Q' := lastPost F n P (l ++ [last]).toArray last Q) hro (fun _ w' hw' h => h w' hw') _ _ _ { w with drawn := w.drawn + 1 } ⟨1, rfl⟩ hq
    simpa using this
  have h3 := any_last r hb hck l.length (List.replicate l.length false) a _ (by simp) (by simp) (closedB_start _ _ _) hq2
  have e : (List.replicate l.length false ++ [false]).toArray = Array.replicate (l ++ [last]).toArray.size false := by
    rw [← List.replicate_succ']
    simp
  rw [e] at h3
  have e2 : (l ++ [last]).toArray.size = l.length + 1 := by simp
  rw [e2] at h3 ⊢
  exact h3
/-- The same of a region that is written out. -/
theorem region_last_lit {id : Nat} {Q : Exit → Act → World → Prop} {a : Act} {w : World} {full : List Oper} (r : Nat) (hro : F.round = none) (hb : bareB full = true) (hm : P.follows .mixedOrders = true) (hB : Region.lexB .any full.dropLast.toArray = true)
    (hck : (!full.isEmpty && (boolLists (full.length - 1)).all (lastB .any full.dropLast.toArray full.toArray (full.length - 1))) = true)
    (h : wpQuietIn F n P full.dropLast.toArray (fun w' => ∃ n, w' = w.drewN n) (fun a' => ∀ w', (∃ n, w' = w.drewN n) → wpListIn F n P full.toArray Q (full.drop (full.length - 1)) a' w') full.dropLast a) : (Code.region id full.toArray true).wpIn (F.inRound r) n P Q a w := by
  rw [Bool.and_eq_true] at hck
  have hne : full ≠ [] := by intro e; rw [e] at hck; simp at hck
  have e := List.dropLast_concat_getLast hne
  have hl : full.dropLast.length = full.length - 1 := List.length_dropLast
  have hd : full.drop (full.length - 1) = [full.getLast hne] := by
    conv => lhs; arg 2; rw [← e]
    rw [← hl, List.drop_left]
  rw [hd] at h
  have k := region_last_round (F := F) (n := n) (P := P) (id := id) (Q := Q) (a := a) (w := w) (l := full.dropLast) (last := full.getLast hne) r hro (by rw [e]; exact hb) hm hB (by rw [e, hl]; exact hck.2) (by rw [e]; exact h)
  rw [e] at k
  exact k
end
end Go.Proofs.Ytpoeginnoocenaa
