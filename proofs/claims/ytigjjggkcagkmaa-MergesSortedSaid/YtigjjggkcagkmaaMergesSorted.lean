/-
  Rows.MergesSortedSaid: of lists that are sorted just their entries are told, sorted, each once.
-/
import Derived.Test.YtigjjggkcagkmaaMergeOne
import Derived.Test.YtigjjggkcagkmaaOpenLists
import Derived.Test.YtigjjggkcagkmaaMergesOrder
import Derived.Test.YtigjjggkcagkmaaEntSearch
namespace Go.Proofs.Ytigjjggkcagkmaa
open Go.RowKit
set_option linter.unusedVariables false

theorem below_searchM {l : List Ent} (hs : sortedE l = true) (e : Ent) : ∀ i, (hi : i < l.length) → i < searchE l e.1 e.2.1 → lessE l[i] e = true := by
  intro i hi h
  have := (searchE_cut hs e.1 e.2.1 i hi).2 h
  rw [aheadE_iff] at this
  rw [lessE_iff]
  omega
theorem sorted_at {l : List Ent} (hs : sortedE l = true) {j p : Nat} (hj : j < p) {x y : Ent} (hx : l[j]? = some x) (hy : l[p]? = some y) : lessE x y = true := by
  unfold sortedE at hs
  rw [decide_eq_true_iff, List.pairwise_iff_getElem] at hs
  obtain ⟨h1, rfl⟩ := List.getElem?_eq_some_iff.1 hx
  obtain ⟨h2, rfl⟩ := List.getElem?_eq_some_iff.1 hy
  exact hs j p h1 h2 hj
theorem search_le_at {l : List Ent} (hs : sortedE l = true) {e : Ent} {p : Nat} (hp : l[p]? = some e) : searchE l e.1 e.2.1 ≤ p := by
  rcases Nat.lt_or_ge p (searchE l e.1 e.2.1) with h | h
  · obtain ⟨h1, h2⟩ := List.getElem?_eq_some_iff.1 hp
    have := below_searchM hs e p h1 h
    rw [h2, lessE_irr] at this
    cases this
  · exact h
def isIn (x : Ent) (l : List Ent) : Bool := l.any fun y => decide (y = x)
def isInAny (x : Ent) (ls : List (List Ent)) : Bool := ls.any (isIn x)
theorem isIn_succ {x y : Ent} {l : List Ent} {k : Nat} (h : l[k]? = some y) : isIn x (l.take (k + 1)) = (isIn x (l.take k) || decide (y = x)) := by
  unfold isIn; rw [List.take_add_one, h, List.any_append]; simp
theorem isInAny_succ {x : Ent} {ls : List (List Ent)} {l : List Ent} {k : Nat} (h : ls[k]? = some l) : isInAny x (ls.take (k + 1)) = (isInAny x (ls.take k) || isIn x l) := by
  unfold isInAny; rw [List.take_add_one, h, List.any_append]; simp
theorem isInAny_of {x : Ent} {ls : List (List Ent)} (h : ∃ l ∈ ls, x ∈ l) : isInAny x ls = true := by
  obtain ⟨l, hl, hx⟩ := h
  exact List.any_eq_true.2 ⟨l, hl, List.any_eq_true.2 ⟨x, hx, by simp⟩⟩
set_option maxRecDepth 4000 in
set_option maxHeartbeats 8000000 in
theorem MergesSorted_walk (v : Value) (ls : List (List Ent)) (w : World) (h : Lists w v ls) :
    Calls Try.prog 14 #[v] w fun e w' => e = .returned (.bool true) ∧ Below w.heap.size w w' := by
  obtain ⟨A, c, rfl, hc1, hc2⟩ := h.head
  unfold maxLen at hc2
  have hg := law_great (.slice A ls.length c) ls w h
  have hrz : greatM ls = false → ls.length ≤ 1000 ∧ totalM ls ≤ 1000000 := fun hgm => by
    obtain ⟨h1, -, h2⟩ := greatM_no hgm
    exact ⟨by omega, by omega⟩
  have hri := fun hgm w' hb => law_rising (.slice A ls.length c) ls w' (h.next hb) (hrz hgm).1 (hrz hgm).2
  have htt : greatM ls = false → ls.length ≤ 12 ∧ totalM (ls.map rise) ≤ 720 := fun hgm => by
    obtain ⟨h1, -, h2⟩ := greatM_no hgm
    have := total_rise ls
    exact ⟨by omega, by omega⟩
  have hrs := rises ls
  have hrl : (ls.map rise).length = ls.length := by simp
  generalize ls.map rise = rs at hri htt hrs hrl
  obtain ⟨n, hn⟩ : ∃ n, n = ls.length := ⟨_, rfl⟩
  rw [← hn] at hc1 hg htt hrl ⊢
  simp only [← hn] at hri
  generalize greatM ls = gm at hg hri hrz htt
  clear h hn hrz
  rcases gm with _ | _
  · obtain ⟨hl12, htot⟩ := htt rfl
    have ri := hri rfl
    clear htt hri
    obtain ⟨M, hM⟩ : ∃ M, mergeL rs = M := ⟨_, rfl⟩
    obtain ⟨hMs, hMm⟩ := mergeL_sorted hrs
    rw [hM] at hMs
    simp only [hM] at hMm
    have lM : M.length ≤ totalM rs := by rw [← hM]; exact mergeL_len rs
    have Hrs := Lib.hid hrs
    have Hrl := Lib.hid hrl
    have HMs := Lib.hid hMs
    have HMm := Lib.hid hMm
    have HM := Lib.hid hM
    have hlen : ∀ (k : Nat) (l : List Ent), rs[k]? = some l → l.length ≤ 720 := fun k l hl => by
      have h2 := total_mem (List.mem_of_getElem? hl)
      omega
    have Hlen := Lib.hid hlen
    clear hrs hrl hMs hMm hM hlen
    go_enter Try.func14, Try.ntmps14
    go_wp2_with fail
    refine hg.mono ?_
    rintro e w1 ⟨rfl, hb1⟩
    clear hg
    go_wp2_with fail
    refine (ri w1 hb1).mono ?_
    rintro e w2 ⟨A2, c2, rfl, ⟨vs, hown2⟩, hb2⟩
    have hbw2 := below_chain hb1 hb2
    have hL2 : Lists w2 (.slice A2 n c2) rs := hown2.lists
    have hcn : n ≤ c2 ∧ c2 ≤ maxLen := by
      obtain ⟨A9, c9, h9, h10, h11⟩ := hL2.head
      simp only [Value.slice.injEq] at h9
      obtain ⟨rfl, -, rfl⟩ := h9
      exact ⟨by have := Hrl.out; omega, h11⟩
    clear hown2 ri hb1 hb2
    obtain ⟨hcn1, hcn2⟩ := hcn
    unfold maxLen at hcn2
    have HL2 := Lib.hid hL2
    clear hL2
    go_wp2_with fail
    refine (ex_Merge _ rs M M.length w2 HL2.out (by have := Hrl.out; omega) (by omega) HM.out rfl).mono ?_
    rintro e w3 ⟨A3, c3, rfl, hE3, hb3⟩
    obtain ⟨-, m1, m2, -⟩ := hE3.cells
    unfold maxLen at m2
    have hL3 := HL2.out.next hb3
    have HE3 := Lib.hid hE3
    have HL3 := Lib.hid hL3
    have BW := below_chain hbw2 hb3
    clear hE3 hL3 HL2 hb3 hbw2
    go_wp2_with fail
    refine (entries_Sorted _ M w3 HE3.out).mono ?_
    rintro e w4 ⟨rfl, hb4⟩
    rw [HMs.out]
    go_wp2_with fail
    go_loopw [5] (fun i wr => ∃ k : Nat, k ≤ n ∧ i = .int .i64 (k : Int) ∧ Below w3.heap.size w3 wr) (fun i _ => n - (intOf i).toNat)
    case atStart => exact ⟨0, Nat.zero_le _, rfl, hb4⟩
    case round =>
      obtain ⟨k, hk, rfl, hbr⟩ := hrel
      by_cases hlt : k < n
      · have i1 : (k : Int) < n := by omega
        obtain ⟨l, hl⟩ : ∃ l, rs[k]? = some l := ⟨_, List.getElem?_eq_getElem (by have := Hrl.out; omega)⟩
        have hll := Hlen.out k l hl
        obtain ⟨b, off, A1, c1, rfl, hcell, hE, q1, q2⟩ := HL3.out.at hl
        unfold maxLen at q2
        have Hl := Lib.hid hl
        have Hcell := Lib.hid hcell
        have HE := Lib.hid hE
        clear hl hcell hE
        go_wp2_with fail
        obtain ⟨wo, rfl⟩ : ∃ x, x = wr := ⟨_, rfl⟩
        go_loopw [6] (fun i wi => ∃ m : Nat, m ≤ l.length ∧ i = .int .i64 (m : Int) ∧ Below w3.heap.size w3 wi) (fun i _ => l.length - (intOf i).toNat)
        case atStart => exact ⟨0, Nat.zero_le _, rfl, hbr⟩
        case round =>
          obtain ⟨m, hm, rfl, hbi⟩ := hrel
          have f0 := Hcell.out wr hbi
          have f1 := fun x : Later wr => Hcell.out x.it (below_chain hbi x.ok)
          by_cases hlt2 : m < l.length
          · have j1 : (m : Int) < l.length := by omega
            obtain ⟨e, he⟩ : ∃ e, l[m]? = some e := ⟨_, List.getElem?_eq_getElem hlt2⟩
            have oe := HE.out.2 e (List.mem_of_getElem? he)
            obtain ⟨p, hp⟩ : ∃ p, M[p]? = some e := List.getElem?_of_mem ((HMm.out e).2 ⟨l, List.mem_of_getElem? Hl.out, List.mem_of_getElem? he⟩)
            have hpl := (List.getElem?_eq_some_iff.1 hp).1
            have hsp := search_le_at HMs.out hp
            have cS := fun w' (hb : Below w3.heap.size w3 w') => entries_Search (.slice A3 M.length c3) M e.1 e.2.1 w' (HE3.out.next hb) HMs.out oe.1 oe.2.1
            generalize searchE M e.1 e.2.1 = s at hsp cS
            obtain ⟨b2, off2, rfl, hb2lt, hcc⟩ := HE.out.later (by omega)
            obtain ⟨b3, off3, rfl, hb3lt, hcM⟩ := HE3.out.later (by omega)
            have ca0 := fun y : Later wr => (hcc m e he y.it (below_chain hbi y.ok)).1
            have ca1 := fun y : Later wr => (hcc m e he y.it (below_chain hbi y.ok)).2.1
            have cS2 := fun y : Later wr => cS y.it (below_chain hbi y.ok)
            have Hcc := Lib.hid (hcc m e he)
            have HcM := Lib.hid hcM
            have Hp := Lib.hid hp
            clear hcc hcM cS he hp
            go_wp2_with fail
            refine wp_region_below (by kernel_rfl) (by kernel_rfl) ?_
            repeat (first | go_big_quiet_skip | (go_big_quiet_want; go_big_quiet_op; go_big_quiet_on) | (go_big_quiet_want; go_big_quiet_op; apply Exists.intro; refine ⟨fun x => ?_, ?_⟩; (first | (go_at_call 40; exact calls_below x (cS2 x))); go_big_quiet_on))
            refine wpQuiet_nil ?_
            intro _ hx
            obtain ⟨⟨w5, hb5⟩, rfl⟩ := hx
            have hb35 := below_chain hbi hb5
            clear ca0 ca1 cS2 f0 f1
            go_wp2_with fail
            go_loopw [7] (fun i wj => ∃ j : Nat, j ≤ p ∧ i = .int .i64 (j : Int) ∧ Below w3.heap.size w3 wj) (fun i _ => p - (intOf i).toNat)
            case atStart => exact ⟨s, hsp, rfl, hb35⟩
            case round =>
              obtain ⟨j, hj, rfl, hbj⟩ := hrel
              have hjM : j < M.length := by omega
              have j2 : (j : Int) < M.length := by omega
              have j3 : ¬ (M.length : Int) ≤ j := by omega
              obtain ⟨y, hy⟩ : ∃ y, M[j]? = some y := ⟨_, List.getElem?_eq_getElem hjM⟩
              have oy := HE3.out.2 y (List.mem_of_getElem? hy)
              have f1 := fun x : Later wr => Hcell.out x.it (below_chain hbj x.ok)
              have ca0 := fun z : Later wr => (Hcc.out z.it (below_chain hbj z.ok)).1
              have ca1 := fun z : Later wr => (Hcc.out z.it (below_chain hbj z.ok)).2.1
              have ca2 := fun z : Later wr => (Hcc.out z.it (below_chain hbj z.ok)).2.2
              have cm0 := fun z : Later wr => (HcM.out j y hy z.it (below_chain hbj z.ok)).1
              have cm1 := fun z : Later wr => (HcM.out j y hy z.it (below_chain hbj z.ok)).2.1
              have cm2 := fun z : Later wr => (HcM.out j y hy z.it (below_chain hbj z.ok)).2.2
              by_cases hjp : j < p
              · have hle := sorted_at HMs.out hjp hy Hp.out
                have cL := fun w' => entries_Less y e w' oy oe
                rw [hle] at cL
                clear hy
                go_wp2_with fail
                refine wp_region_below (by kernel_rfl) (by kernel_rfl) ?_
                repeat (first | go_big_quiet_skip | (go_big_quiet_want; go_big_quiet_op; go_big_quiet_on) | (go_big_quiet_want; go_big_quiet_op; apply Exists.intro; refine ⟨fun x => ?_, ?_⟩; (first | (go_at_call 41; exact calls_below x (cL _))); go_big_quiet_on))
                refine wpQuiet_nil ?_
                intro _ hx
                obtain ⟨⟨w6, hb6⟩, rfl⟩ := hx
                go_wp2
                go_roundw
                case rel => exact ⟨j + 1, by omega, by go_num, below_chain hbj hb6⟩
                case measure => simp [intOf]; omega
              · obtain rfl : j = p := by omega
                obtain rfl : y = e := by have := Hp.out; rw [hy] at this; exact Option.some.inj this
                have hle : lessE y y = false := lessE_irr
                have cL := fun w' => entries_Less y y w' oy oe
                rw [hle] at cL
                clear hy
                go_wp2_with fail
                refine wp_region_below (by kernel_rfl) (by kernel_rfl) ?_
                repeat (first | go_big_quiet_skip | (go_big_quiet_want; go_big_quiet_op; go_big_quiet_on) | (go_big_quiet_want; go_big_quiet_op; apply Exists.intro; refine ⟨fun x => ?_, ?_⟩; (first | (go_at_call 41; exact calls_below x (cL _))); go_big_quiet_on))
                refine wpQuiet_nil ?_
                intro _ hx
                obtain ⟨⟨w6, hb6⟩, rfl⟩ := hx
                rename_i w6
                have hb36 := below_chain hbj hb6
                clear f1 ca0 ca1 ca2 cm0 cm1 cm2
                have f1 := fun x : Later w6 => Hcell.out x.it (below_chain hb36 x.ok)
                have ca0 := fun z : Later w6 => (Hcc.out z.it (below_chain hb36 z.ok)).1
                have ca1 := fun z : Later w6 => (Hcc.out z.it (below_chain hb36 z.ok)).2.1
                have ca2 := fun z : Later w6 => (Hcc.out z.it (below_chain hb36 z.ok)).2.2
                have cm0 := fun z : Later w6 => (HcM.out j y Hp.out z.it (below_chain hb36 z.ok)).1
                have cm1 := fun z : Later w6 => (HcM.out j y Hp.out z.it (below_chain hb36 z.ok)).2.1
                have cm2 := fun z : Later w6 => (HcM.out j y Hp.out z.it (below_chain hb36 z.ok)).2.2
                have j4 : ¬ M.length ≤ j := by omega
                have j5 : decide (M.length ≤ j) = false := decide_eq_false j4
                have j6 : j < M.length := by omega
                go_wp2_with fail
                refine wp_region_below (by kernel_rfl) (by kernel_rfl) ?_
                repeat (first | go_big_quiet_skip | (go_big_quiet_want; go_big_quiet_op; go_big_quiet_on) | (go_big_quiet_want; go_big_quiet_op; apply Exists.intro; refine ⟨fun x => ?_, ?_⟩; (fail); go_big_quiet_on))
                refine wpQuiet_nil ?_
                intro _ hx
                obtain ⟨⟨w7, hb7⟩, rfl⟩ := hx
                go_wp2
                go_roundw
                case rel => exact ⟨m + 1, by omega, by go_num, below_chain hb36 hb7⟩
                case measure => simp [intOf]; omega
          · have j1 : ¬ (m : Int) < l.length := by omega
            go_wp2
            go_roundw
            case rel => exact ⟨k + 1, by omega, by go_num, hbi⟩
            case measure => simp [intOf]; omega
      · have i1 : ¬ (k : Int) < n := by omega
        go_wp2_with fail
        go_loopw [8] (fun i wr => ∃ j : Nat, j ≤ M.length ∧ i = .int .i64 (j : Int) ∧ Below w3.heap.size w3 wr) (fun i _ => M.length - (intOf i).toNat)
        case atStart => exact ⟨0, Nat.zero_le _, rfl, hbr⟩
        case round =>
          obtain ⟨j, hj, rfl, hbj⟩ := hrel
          by_cases hjM : j < M.length
          · have j2 : (j : Int) < M.length := by omega
            obtain ⟨y, hy⟩ : ∃ y, M[j]? = some y := ⟨_, List.getElem?_eq_getElem hjM⟩
            obtain ⟨b3, off3, rfl, hb3lt, hcM⟩ := HE3.out.later (by omega)
            have HcM := Lib.hid (hcM j y hy)
            have hin := isInAny_of ((HMm.out y).1 (List.mem_of_getElem? hy))
            have Hin := Lib.hid hin
            clear hcM hy hin
            go_wp2_with fail
            go_loopw [9, 10] (fun b i wi => ∃ (q : Nat), q ≤ n ∧ i = .int .i64 (q : Int) ∧ b = .bool (isInAny y (rs.take q)) ∧ Below w3.heap.size w3 wi) (fun _ i _ => n - (intOf i).toNat)
            case atStart => exact ⟨0, Nat.zero_le _, rfl, rfl, hbj⟩
            case round =>
              obtain ⟨q, hq, rfl, rfl, hbq⟩ := hrel
              rcases hisin : isInAny y (rs.take q) with _ | _
              · by_cases hqn : q < n
                · have k1 : (q : Int) < n := by omega
                  obtain ⟨l, hl⟩ : ∃ l, rs[q]? = some l := ⟨_, List.getElem?_eq_getElem (by have := Hrl.out; omega)⟩
                  have hll := Hlen.out q l hl
                  obtain ⟨b, off, A1, c1, rfl, hcell, hE, q1, q2⟩ := HL3.out.at hl
                  unfold maxLen at q2
                  have Hsucc := Lib.hid (isInAny_succ (x := y) hl)
                  rw [hisin] at Hsucc
                  have Hcell := Lib.hid hcell
                  have HE := Lib.hid hE
                  clear hl hcell hE hisin
                  go_wp2_with fail
                  go_loopw [9, 11] (fun b i wi => ∃ (m : Nat), m ≤ l.length ∧ i = .int .i64 (m : Int) ∧ b = .bool (isIn y (l.take m)) ∧ Below w3.heap.size w3 wi) (fun _ i _ => l.length - (intOf i).toNat)
                  case atStart => exact ⟨0, Nat.zero_le _, rfl, rfl, hbq⟩
                  case round =>
                    obtain ⟨m, hm, rfl, rfl, hbm⟩ := hrel
                    have f0 := Hcell.out wr hbm
                    by_cases hml : m < l.length
                    · have k2 : (m : Int) < l.length := by omega
                      obtain ⟨e, he⟩ : ∃ e, l[m]? = some e := ⟨_, List.getElem?_eq_getElem hml⟩
                      obtain ⟨b2, off2, rfl, hb2lt, hcc⟩ := HE.out.later (by omega)
                      have Hs := Lib.hid (isIn_succ (x := y) he)
                      have f1 := fun x : Later wr => Hcell.out x.it (below_chain hbm x.ok)
                      have ca0 := fun z : Later wr => (hcc m e he z.it (below_chain hbm z.ok)).1
                      have ca1 := fun z : Later wr => (hcc m e he z.it (below_chain hbm z.ok)).2.1
                      have ca2 := fun z : Later wr => (hcc m e he z.it (below_chain hbm z.ok)).2.2
                      have cm0 := fun z : Later wr => (HcM.out z.it (below_chain hbm z.ok)).1
                      have cm1 := fun z : Later wr => (HcM.out z.it (below_chain hbm z.ok)).2.1
                      have cm2 := fun z : Later wr => (HcM.out z.it (below_chain hbm z.ok)).2.2
                      clear hcc he
                      generalize hB : isIn y (l.take m) = B at Hs ⊢
                      clear hB
                      rcases B with _ | _
                      · by_cases hey : e = y
                        · subst hey
                          have e1 : isIn e (l.take (m + 1)) = true := by rw [Hs.out]; simp
                          have E1 := Lib.hid e1
                          clear e1
                          go_wp2_with fail
                          refine wp_region_below (by kernel_rfl) (by kernel_rfl) ?_
                          repeat (first | go_big_quiet_skip | (go_big_quiet_want; go_big_quiet_op; go_big_quiet_on) | (go_big_quiet_want; go_big_quiet_op; apply Exists.intro; refine ⟨fun x => ?_, ?_⟩; (fail); go_big_quiet_on))
                          refine wpQuiet_nil ?_
                          intro _ hx
                          obtain ⟨⟨w6, hb6⟩, rfl⟩ := hx
                          go_wp2
                          go_roundw
                          case rel => exact ⟨m + 1, by omega, by go_num, by rw [E1.out], below_chain hbm hb6⟩
                          case measure => simp [intOf]; omega
                        · have hne := ent_ne hey
                          have e1 : isIn y (l.take (m + 1)) = false := by rw [Hs.out]; simp [hey]
                          have E1 := Lib.hid e1
                          clear e1 hey
                          go_wp2_with fail
                          refine wp_region_below (by kernel_rfl) (by kernel_rfl) ?_
                          repeat (first | go_big_quiet_skip | (go_big_quiet_want; go_big_quiet_op; go_big_quiet_on) | (go_big_quiet_want; go_big_quiet_op; apply Exists.intro; refine ⟨fun x => ?_, ?_⟩; (fail); go_big_quiet_on))
                          refine wpQuiet_nil ?_
                          intro _ hx
                          obtain ⟨⟨w6, hb6⟩, rfl⟩ := hx
                          go_wp2
                          go_roundw
                          case rel => exact ⟨m + 1, by omega, by go_num, by rw [E1.out], below_chain hbm hb6⟩
                          case measure => simp [intOf]; omega
                      · have e1 : isIn y (l.take (m + 1)) = true := by rw [Hs.out]; rfl
                        have E1 := Lib.hid e1
                        clear e1
                        go_wp2_with fail
                        refine wp_region_below (by kernel_rfl) (by kernel_rfl) ?_
                        repeat (first | go_big_quiet_skip | (go_big_quiet_want; go_big_quiet_op; go_big_quiet_on) | (go_big_quiet_want; go_big_quiet_op; apply Exists.intro; refine ⟨fun x => ?_, ?_⟩; (fail); go_big_quiet_on))
                        refine wpQuiet_nil ?_
                        intro _ hx
                        obtain ⟨⟨w6, hb6⟩, rfl⟩ := hx
                        go_wp2
                        go_roundw
                        case rel => exact ⟨m + 1, by omega, by go_num, by rw [E1.out], below_chain hbm hb6⟩
                        case measure => simp [intOf]; omega
                    · obtain rfl : m = l.length := by omega
                      have k2 : ¬ (l.length : Int) < l.length := by omega
                      have e1 : isInAny y (rs.take (q + 1)) = isIn y (l.take l.length) := by rw [Hsucc.out, List.take_of_length_le (Nat.le_refl _)]; rfl
                      have E1 := Lib.hid e1
                      clear e1
                      generalize isIn y (l.take l.length) = B at E1 ⊢
                      go_wp2
                      go_roundw
                      case rel => exact ⟨q + 1, by omega, by go_num, by rw [E1.out], hbm⟩
                      case measure => simp [intOf]; omega
                · obtain rfl : q = n := by omega
                  exfalso
                  rw [List.take_of_length_le (by rw [Hrl.out]; exact Nat.le_refl _), Hin.out] at hisin
                  cases hisin
              · clear hisin
                by_cases hqn : q < n
                · have k1 : (q : Int) < n := by omega
                  go_wp2
                  go_roundw
                  case rel => exact ⟨j + 1, by omega, by go_num, hbq⟩
                  case measure => simp [intOf]; omega
                · have k1 : ¬ (q : Int) < n := by omega
                  go_wp2
                  go_roundw
                  case rel => exact ⟨j + 1, by omega, by go_num, hbq⟩
                  case measure => simp [intOf]; omega
          · have j2 : ¬ (j : Int) < M.length := by omega
            go_wp2_with fail
            refine (law_one wr).mono ?_
            rintro e w14 ⟨rfl, hb14⟩
            go_wp2
            go_ret
            exact ⟨rfl, below_chain BW (below_chain hbj hb14)⟩
  · go_enter Try.func14, Try.ntmps14
    clear htt hri
    go_wp2_with fail
    refine hg.mono ?_
    rintro e w1 ⟨rfl, hb1⟩
    go_wp2_with fail
    refine (law_one w1).mono ?_
    rintro e w2 ⟨rfl, hb2⟩
    go_wp2
    go_ret
    exact ⟨rfl, below_chain hb1 hb2⟩
end Go.Proofs.Ytigjjggkcagkmaa
