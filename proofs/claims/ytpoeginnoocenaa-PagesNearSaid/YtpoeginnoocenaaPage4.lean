/-
  PAGES: a filter as it is loaded.
-/
import Derived.Test.YtpoeginnoocenaaPage3
import Derived.Maps.StringElems
import Derived.Maps.OwnSet
namespace Go.Proofs.Ytpoeginnoocenaa
open Go.RowKit Go.Maps
set_option linter.unusedVariables false

theorem row_aggP {w : World} {g : Nat} {t : TypeId} {a b c : Value} (h : Row w g t [a, b, c]) : w.cell? ⟨g, 0, none⟩ = some a ∧ w.cell? ⟨g, 1, none⟩ = some b ∧ w.cell? ⟨g, 2, none⟩ = some c ∧ w.frozen? ⟨g, 0, none⟩ = false ∧ w.frozen? ⟨g, 1, none⟩ = false ∧ w.frozen? ⟨g, 2, none⟩ = false :=
  ⟨h.cell 0 (by simp), h.cell 1 (by simp), h.cell 2 (by simp), h.frozen 0 (by simp), h.frozen 1 (by simp), h.frozen 2 (by simp)⟩
theorem wf_i64P {a : Int} (h1 : -9223372036854775808 ≤ a) (h2 : a ≤ 9223372036854775807) : (Lit.int .i64 a).wf = true := by
  unfold Lit.wf
  rw [Bool.and_eq_true, decide_eq_true_eq, decide_eq_true_eq]
  exact ⟨h1, h2⟩
theorem grown_setP (w : World) (p : Addr) (v : Value) : w.grownBy (w.setCell p v) (some p.block) :=
  ⟨rfl, rfl, rfl, by simp, fun k hk hne => Below.heap_setCell w p v k (fun h => hne (by rw [h]))⟩
abbrev Dm := DataW Unit
def keyI (n : Nat) : Lit := .int .i64 (n : Int)
/-- The map has the pages below k that are whole. -/
def MapP (D : Dm) (L : List UInt8) (k : Nat) : Prop := IsMap D ∧ ∀ n : Nat, (n < k → has D (keyI n) = (pageF L n).isSome ∧ ∀ p, pageF L n = some p → ∀ zd, D.atKey (keyI n) zd = .lit (.string p)) ∧ (k ≤ n → has D (keyI n) = false)
theorem MapP.nil (L : List UInt8) : MapP (.map []) L 0 := ⟨isMap_empty, fun n => ⟨fun h => by omega, fun _ => rfl⟩⟩
theorem keyI_ne {a b : Nat} (h : a ≠ b) : keyI a ≠ keyI b := by
  unfold keyI
  intro h9
  simp at h9
  omega
theorem MapP.skip {D : Dm} {L : List UInt8} {k : Nat} (h : MapP D L k) (hp : pageF L k = none) : MapP D L (k + 1) := by
  refine ⟨h.1, fun n => ⟨fun hn => ?_, fun hn => (h.2 n).2 (by omega)⟩⟩
  rcases Nat.lt_or_ge n k with h1 | h1
  · exact (h.2 n).1 h1
  · obtain rfl : n = k := by omega
    refine ⟨by rw [(h.2 n).2 (Nat.le_refl _), hp]; rfl, fun p h9 => by rw [hp] at h9; cases h9⟩
theorem MapP.put {D : Dm} {L : List UInt8} {k : Nat} {p : List UInt8} (h : MapP D L k) (hp : pageF L k = some p) (hk : WideAt.IsKeyLit (keyI k)) : MapP (D.put (keyI k) (.lit (.string p))) L (k + 1) := by
  refine ⟨h.1.put _ _, fun n => ⟨fun hn => ?_, fun hn => ?_⟩⟩
  · rcases Nat.lt_or_ge n k with h1 | h1
    · have hne := keyI_ne (a := n) (b := k) (by omega)
      obtain ⟨a1, a2⟩ := (h.2 n).1 h1
      refine ⟨by rw [has_put_other hne]; exact a1, fun q hq zd => by rw [atKey_put_other hne]; exact a2 q hq zd⟩
    · obtain rfl : n = k := by omega
      refine ⟨by rw [has_put_same h.1 hk, hp]; rfl, fun q hq zd => ?_⟩
      rw [hp] at hq
      cases hq
      exact atKey_put_same h.1 hk _ _
  · rw [has_put_other (keyI_ne (a := n) (b := k) (by omega))]
    exact (h.2 n).2 (by omega)
theorem MapP.all {D : Dm} {L : List UInt8} {k m : Nat} (h : MapP D L k) (hno : ∀ n, k ≤ n → n < m → pageF L n = none) : ∀ n, n < m → has D (keyI n) = (pageF L n).isSome ∧ ∀ p, pageF L n = some p → ∀ zd, D.atKey (keyI n) zd = .lit (.string p) := by
  intro n hn
  rcases Nat.lt_or_ge n k with h1 | h1
  · exact (h.2 n).1 h1
  · have := hno n h1 hn
    rw [this]
    exact ⟨(h.2 n).2 h1, fun p h9 => by cases h9⟩
def FilterV (w : World) (v : Value) (L : List UInt8) : Prop :=
  (v = .agg #[.int .i64 0, .int .i64 0, .map none] ∧ okF L = false) ∨
  ∃ (B n : Nat) (D : Dm), v = .agg #[.int .i64 (probesF L : Nat), .int .i64 (sizeF L : Nat), .map (some B)] ∧ okF L = true ∧ w.ownsMap Try.prog 3 (plainElem Try.prog 9) B n D ∧
    ∀ n, n < sizeF L / 60 → has D (keyI n) = (pageF L n).isSome ∧ ∀ p, pageF L n = some p → ∀ zd, D.atKey (keyI n) zd = .lit (.string p)
theorem FilterV.next {w w' : World} {v : Value} {L : List UInt8} (h : FilterV w v L) (hb : Below w.heap.size w w') : FilterV w' v L := by
  rcases h with h | ⟨B, n, D, h1, h2, h3, h4⟩
  · exact .inl h
  · exact .inr ⟨B, n, D, h1, h2, h3.kept (row := none) ⟨hb.os, hb.tape, hb.output, hb.size, fun k hk _ => hb.block k hk⟩ (by simp), h4⟩
set_option maxRecDepth 100000 in
set_option maxHeartbeats 4000000 in
theorem pages_Load (s : ByteArray) (w : World) (hs : s.size ≤ 1000000000) :
    Calls Try.prog 24 #[.string s] w fun e w' => ∃ v, e = .returned v ∧ FilterV w' v (lb s) ∧ Below w.heap.size w w' := by
  by_cases h64 : s.size < 64
  · have i1 : (s.size : Int) < 64 := by omega
    have hno : okF (lb s) = false := okF_no (by rw [length_lb]; omega)
    have Hno := Lib.hid hno
    clear hno
    go_enter Try.func24, Try.ntmps24
    go_wp2
    refine bodyPost_ret (v := .agg #[.int .i64 0, .int .i64 0, .map none]) (by simp [results, Try.results24, go_sem]) rfl ⟨_, rfl, .inl ⟨rfl, Hno.out⟩, (Below.refl _ _).alloc (Nat.le_refl _) _⟩
  · have i1 : ¬ (s.size : Int) < 64 := by omega
    have hz := sizeF_lt (lb s)
    have hF : (s.extract 0 64).size = 64 := by rw [ByteArray.size_extract]; omega
    have hz1 : getN (lb ((s.extract 0 64).extract 4 8)) = sizeF (lb s) := by
      rw [sizeF_eq, take64]; unfold sizeF; congr 1; rw [List.drop_take, List.take_take]; simp
    have hpr := probesF_eq (s.extract 0 64) (by omega)
    have hpr2 : probesF (lb (s.extract 0 64)) = probesF (lb s) := by
      rw [take64]; unfold probesF; rw [List.getD_eq_getElem?_getD, List.getD_eq_getElem?_getD, List.getElem?_take_of_lt (by omega)]
    have hz2 := take64 s
    have i5 : (64 : Int) ≤ s.size := by omega
    obtain ⟨Z, hZ⟩ : ∃ Z, Z = sizeF (lb s) := ⟨_, rfl⟩
    obtain ⟨p, hp⟩ : ∃ p, p = probesF (lb s) := ⟨_, rfl⟩
    have hp8 : p < 256 := by rw [hp, ← hpr2, hpr]; exact (s.extract 0 64)[3].toNat_lt
    have key : ∀ F : ByteArray, s.extract 0 64 = F → F.size = 64 ∧ getN (lb (F.extract 4 8)) = Z ∧ (∀ h : 3 < F.size, (F[3].toNat : Int) = (p : Int)) ∧ lb F = (lb s).take 64 := by
      rintro F rfl
      exact ⟨hF, by rw [hz1, hZ], fun h => by rw [hp, ← hpr2, hpr], hz2⟩
    have cG : ∀ F : ByteArray, s.extract 0 64 = F → ∀ w', Calls Try.prog 41 #[.string (F.extract 4 8)] w' fun e w'' => e = .returned (.int .u64 (Z : Nat)) ∧ w' = w'' := fun F hFF w' => by
      have := nums_Get (F.extract 4 8) w' (by rw [ByteArray.size_extract]; unfold maxLen; omega)
      rw [(key F hFF).2.1] at this; exact this
    have cM := fun w => pages_may (Z : Int) (p : Int) w (by omega) (by omega)
    have u1 : IntKind.i64.wrap (Z : Int) = (Z : Int) := by rw [IntKind.wrap_i64]; omega
    have z0 : (0 : Int) ≤ (Z : Int) := by omega
    have p0 : (0 : Int) ≤ (p : Int) := by omega
    have p1 : (p : Int) < 256 := by omega
    have HZ := Lib.hid hZ
    have HP := Lib.hid hp
    have HK := Lib.hid key
    have HG := Lib.hid cG
    clear hz1 hZ hp hz2 hpr hpr2 hz hF key cG
    go_enter Try.func24, Try.ntmps24
    go_wp2_with fail
    have hl0 := (Below.refl w.heap.size w).alloc (Nat.le_refl _) (.cells #[.int .i64 0, .int .i64 0, .map none] 42)
    have hr0 := Row.new w #[.int .i64 0, .int .i64 0, .map none] 42
    obtain ⟨R0, hR0⟩ : ∃ R, R = w.heap.size := ⟨_, rfl⟩
    rw [← hR0] at hr0 ⊢
    generalize w.alloc (.cells #[.int .i64 0, .int .i64 0, .map none] 42) = w1 at hl0 hr0 ⊢
    have HR0 := Lib.hid hR0
    have Hr0 := Lib.hid hr0
    clear hR0 hr0
    generalize hFd : s.extract 0 64 = F
    obtain ⟨k1, -, k2, k3⟩ := HK.out F hFd
    have cG := HG.out F hFd
    have k4 := k2 (by omega)
    have k5 : 3 < F.size := by omega
    have k6 : (3 : Int) < F.size := by omega
    have k7 : (8 : Int) ≤ F.size := by omega
    have K3 := Lib.hid k3
    clear hFd k2 k3 HK HG
    refine wp_region_below (by kernel_rfl) (by kernel_rfl) ?_
    repeat (first | go_big_quiet_skip | (go_big_quiet_want; go_big_quiet_op; go_big_quiet_on) | (go_big_quiet_want; go_big_quiet_op; apply Exists.intro; refine ⟨fun x => ?_, ?_⟩; (first | (go_at_call 41; exact calls_same x (cG _))); go_big_quiet_on))
    refine wpQuiet_nil ?_
    intro _ hx
    obtain ⟨⟨w2, hb2⟩, rfl⟩ := hx
    rename_i w2
    clear cG k4 k5 k6 k7 u1
    go_wp2_with fail
    rcases hmay : mayI (Z : Int) (p : Int) with _ | _
    · rw [hmay] at cM
      have hno : okF (lb s) = false := okF_no (fun h9 => by rw [← HZ.out, ← HP.out, hmay] at h9; cases h9.2.1)
      have Hno := Lib.hid hno
      clear hno hmay
      refine (cM _).mono ?_
      rintro e w' ⟨rfl, rfl⟩
      clear cM
      obtain ⟨r0, r1, r2, f0, f1, f2⟩ := row_aggP (Hr0.out.next hb2)
      have Hbel := Lib.hid (below_chain hl0 hb2)
      go_wp2
      refine bodyPost_ret (v := .agg #[.int .i64 0, .int .i64 0, .map none]) (by simp [results, Try.results24, go_sem, r0, r1, r2]) rfl ⟨_, rfl, .inl ⟨rfl, Hno.out⟩, ((Hbel.out.setCell (p := ⟨R0, 0, none⟩) (by rw [HR0.out]; exact Nat.le_refl _) _).setCell (p := ⟨R0, 1, none⟩) (by rw [HR0.out]; exact Nat.le_refl _) _).setCell (p := ⟨R0, 2, none⟩) (by rw [HR0.out]; exact Nat.le_refl _) _⟩
    · rw [hmay] at cM
      obtain ⟨m1, m2, m3, m4, m5⟩ := (mayI_iff _ _).1 hmay
      have cH := fun w => pages_head Z p w (by omega) (by omega)
      have Hmay := Lib.hid hmay
      obtain ⟨m, hm⟩ : ∃ m, m = Z / 60 := ⟨_, rfl⟩
      have hm60 : Z = 60 * m := by omega
      have Hm := Lib.hid (And.intro hm hm60)
      have hm1 : 1 ≤ m := by omega
      have hm2 : m ≤ 2000 := by omega
      clear hmay m3 hm hm60
      refine (cM _).mono ?_
      rintro e w' ⟨rfl, rfl⟩
      clear cM
      go_wp2_with fail
      by_cases heq : (lb s).take 64 = headP Z p
      · have hok : okF (lb s) = true := okF_yes (by rw [length_lb]; omega) (by rw [← HZ.out, ← HP.out]; exact Hmay.out) (by rw [← HZ.out, ← HP.out]; exact heq)
        have hx : bs (headP Z p) = F := by rw [← heq, ← K3.out, bs_lb]
        rw [hx] at cH
        have Hok := Lib.hid hok
        clear hok hx heq Hmay
        refine (cH _).mono ?_
        rintro e w3 ⟨rfl, hb3⟩
        have hmm := @run_makeMap Try.prog
        clear cH
        have eZ : (Z : Int) / 60 = (m : Int) := by rw [Hm.out.1]; simp
        have hown0 := (World.ownsMap_made (H := Unit) w3 Try.prog 3 (plainElem Try.prog 9)).alloc (.cells #[.int .i64 (p : Nat), .int .i64 (Z : Nat), .map (some w3.heap.size)] 42)
        have hrS := Row.new (w3.alloc (.map #[] 0)) #[.int .i64 (p : Nat), .int .i64 (Z : Nat), .map (some w3.heap.size)] 42
        rw [World.size_alloc] at hrS
        have hlit := ((Below.refl w3.heap.size w3).alloc (Nat.le_refl _) (.map #[] 0)).alloc (by simp) (.cells #[.int .i64 (p : Nat), .int .i64 (Z : Nat), .map (some w3.heap.size)] 42)
        have hb03 := below_chain hb2 hb3
        have hrR := (Hr0.out.next hb03).next hlit
        have hbw4 := below_chain (below_chain hl0 hb03) hlit
        have hwz : w.heap.size < w3.heap.size := Nat.lt_of_lt_of_le (by have := Hr0.out.lt; rw [HR0.out] at this; exact this) hb03.size
        go_wp2_with fail
        obtain ⟨B, hB⟩ : ∃ B, B = w3.heap.size := ⟨_, rfl⟩
        obtain ⟨S, hS⟩ : ∃ S, S = w3.heap.size + 1 := ⟨_, rfl⟩
        rw [← hS] at hrS ⊢
        rw [← hB] at hown0 hrS hrR hbw4 ⊢
        generalize (w3.alloc (.map #[] 0)).alloc (.cells #[.int .i64 (p : Nat), .int .i64 (Z : Nat), .map (some B)] 42) = w4 at hown0 hrS hrR hbw4 ⊢
        have HB := Lib.hid hB
        have HS := Lib.hid hS
        have X0 := Lib.hid (And.intro hown0 (And.intro hrS (And.intro hrR hbw4)))
        clear hB hS hown0 hrS hrR hbw4 hlit hb03 eZ hmm
        go_loopw [42] (fun i wr => ∃ (k nn : Nat) (D : Dm), k ≤ m ∧ i = .int .i64 (k : Int) ∧ nn ≤ k ∧ wr.ownsMap Try.prog 3 (plainElem Try.prog 9) B nn D ∧ MapP D (lb s) k ∧ Row wr S 42 [.int .i64 (p : Nat), .int .i64 (Z : Nat), .map (some B)] ∧ Row wr R0 42 [.int .i64 0, .int .i64 0, .map none] ∧ Below w.heap.size w wr) (fun i _ => m - (intOf i).toNat)
        case atStart => exact ⟨0, 0, _, Nat.zero_le _, rfl, Nat.le_refl _, X0.out.1, MapP.nil _, X0.out.2.1, X0.out.2.2.1, X0.out.2.2.2⟩
        case round =>
          obtain ⟨k, nn, D, hk, rfl, hnn, hown, hmp, hrs, hrr, hbr⟩ := hrel
          have Hown := Lib.hid hown
          have Hmp := Lib.hid hmp
          have HRs := Lib.hid hrs
          have HRr := Lib.hid hrr
          clear hown hmp hrs hrr
          by_cases hlt : k < m
          · have j1 : (k : Int) < m := by omega
            obtain ⟨a9, ha9⟩ : ∃ a, a = (k + 1) * 64 := ⟨_, rfl⟩
            obtain ⟨c9, hc9⟩ : ∃ c, c = a9 + 64 := ⟨_, rfl⟩
            have e1 : ((k : Int) + 1) * 64 = (a9 : Int) := by omega
            have e2 : (a9 : Int) + 64 = (c9 : Int) := by omega
            have hraw := extract_raw s k a9 ha9
            rw [← hc9] at hraw
            have b1 : (a9 : Int) ≤ 200000 := by omega
            have b2 : (c9 : Int) ≤ 200000 := by omega
            have HA := Lib.hid (And.intro ha9 hc9)
            clear ha9 hc9
            by_cases hlen : c9 ≤ s.size
            · have k2 : (c9 : Int) ≤ s.size := by omega
              have k2' : ¬ (s.size : Int) < c9 := by omega
              have k4 : (a9 : Int) ≤ c9 := by omega
              have k5 : a9 ≤ c9 := by omega
              have cO := fun w => sums_Open (s.extract a9 c9) w (by rw [ByteArray.size_extract]; omega)
              rw [hraw] at cO
              have hlen2 : (k + 2) * 64 ≤ (lb s).length := by rw [length_lb]; have := HA.out; omega
              rcases hoo : openOk (rawF (lb s) k) with _ | _
              · rw [hoo] at cO
                have HT := Lib.hid (Hmp.out.skip (pageF_shut hoo))
                clear hoo hraw hlen2
                go_wp2_with fail
                refine (cO _).mono ?_
                rintro e w5 ⟨rfl, hb5⟩
                have HO5 := Lib.hid (Hown.out.kept (row := none) ⟨hb5.os, hb5.tape, hb5.output, hb5.size, fun k hk _ => hb5.block k hk⟩ (by simp))
                go_wp2
                go_roundw
                case rel => exact ⟨k + 1, nn, D, by omega, by go_num, by omega, HO5.out, HT.out, HRs.out.next hb5, HRr.out.next hb5, below_chain hbr hb5⟩
                case measure => simp [intOf]; omega
              · rw [hoo] at cO
                have hpg := pageF_some hlen2 hoo
                have hpl := openA_len hoo
                rw [rawF_len hlen2] at hpl
                generalize openA (rawF (lb s) k) = P9 at hpl hpg cO
                have hkey : keyOf Try.prog 3 (.int .i64 (k : Int)) = some (keyI k) := keyOf_int_mk Try.underlying3 (wf_i64P (by omega) (by omega))
                have KI := int_keyed (P := Try.prog) (k := 3) Try.underlying3
                have HT := Lib.hid (Hmp.out.put hpg (KI.key hkey))
                have hval : plainElem (H := Unit) Try.prog 9 (.string (bs P9)) = some (.lit (.string P9), []) := plainElem_string Try.underlying9 (by rw [size_bs]; unfold maxLen; omega)
                have hnm : nn < maxLen := by unfold maxLen; omega
                clear hoo hraw hlen2 hpg hpl
                go_wp2_with fail
                refine (cO _).mono ?_
                rintro e w5 ⟨rfl, hb5⟩
                have HO5 := Lib.hid (Hown.out.kept (row := none) ⟨hb5.os, hb5.tape, hb5.output, hb5.size, fun k hk _ => hb5.block k hk⟩ (by simp))
                have HRs5 := Lib.hid (HRs.out.next hb5)
                have HRr5 := Lib.hid (HRr.out.next hb5)
                have hbw5 := below_chain hbr hb5
                obtain ⟨q0, q1, q2, -, -, -⟩ := row_aggP HRs5.out
                go_wp2_with (first
                  | (at_mapUpdate; refine wpList_mapUpdate_own _ rfl _ _ _ 40 rfl 3 9 KI Try.underlying40 (plainElem Try.prog 9) B nn D rfl HO5.out hnm _ _ (keyI k) rfl rfl hkey (.lit (.string P9)) [] hval ?_; intro w6 hown6 hg6))
                have HO6 := Lib.hid hown6
                have hS1 : some S ≠ some B := by rw [HS.out, HB.out]; simp
                have hR1 : some R0 ≠ some B := by rw [HR0.out, HB.out]; simp; omega
                have HRs6 := Lib.hid (HRs5.out.grown hg6 hS1)
                have HRr6 := Lib.hid (HRr5.out.grown hg6 hR1)
                have hbw6 : Below w.heap.size w w6 := hbw5.grown hg6 hbw5.size (fun k hk => by cases hk; rw [HB.out]; exact Nat.le_of_lt hwz)
                clear hown6 hS1 hR1 q0 q1 q2
                go_wp2
                go_roundw
                case rel => exact ⟨k + 1, nn + 1, _, by omega, by go_num, by omega, HO6.out, HT.out, HRs6.out, HRr6.out, hbw6⟩
                case measure => simp [intOf]; omega
            · have k2 : (s.size : Int) < c9 := by omega
              have Hall := Lib.hid (Hmp.out.all (m := m) (fun n h1 h2 => pageF_none (by rw [length_lb]; have := HA.out; omega)))
              clear hraw
              obtain ⟨r0, r1, r2, f0, f1, f2⟩ := row_aggP HRr.out
              obtain ⟨q0, q1, q2, -, -, -⟩ := row_aggP HRs.out
              have hne9 : S ≠ R0 := by rw [HS.out, HR0.out]; have := hwz; omega
              have hne8 : B ≠ R0 := by rw [HB.out, HR0.out]; have := hwz; omega
              go_wp2
              refine bodyPost_ret (v := .agg #[.int .i64 (p : Nat), .int .i64 (Z : Nat), .map (some B)]) (by simp [results, Try.results24, go_sem, r0, r1, r2]) rfl ⟨_, rfl, .inr ⟨B, nn, D, by rw [← HP.out, ← HZ.out], Hok.out, ?_, by rw [← HZ.out, ← Hm.out.1]; exact Hall.out⟩, ((hbr.setCell (p := ⟨R0, 0, none⟩) (by rw [HR0.out]; exact Nat.le_refl _) _).setCell (p := ⟨R0, 1, none⟩) (by rw [HR0.out]; exact Nat.le_refl _) _).setCell (p := ⟨R0, 2, none⟩) (by rw [HR0.out]; exact Nat.le_refl _) _⟩
              exact ((Hown.out.kept (grown_setP _ ⟨R0, 0, none⟩ _) (by simpa using hne8)).kept (grown_setP _ ⟨R0, 1, none⟩ _) (by simpa using hne8)).kept (grown_setP _ ⟨R0, 2, none⟩ _) (by simpa using hne8)
          · obtain rfl : k = m := by omega
            have j1 : ¬ (k : Int) < k := by omega
            have Hall := Lib.hid (Hmp.out.all (m := k) (fun n h1 h2 => by omega))
            obtain ⟨r0, r1, r2, f0, f1, f2⟩ := row_aggP HRr.out
            obtain ⟨q0, q1, q2, -, -, -⟩ := row_aggP HRs.out
            have hne9 : S ≠ R0 := by rw [HS.out, HR0.out]; have := hwz; omega
            have hne8 : B ≠ R0 := by rw [HB.out, HR0.out]; have := hwz; omega
            go_wp2
            refine bodyPost_ret (v := .agg #[.int .i64 (p : Nat), .int .i64 (Z : Nat), .map (some B)]) (by simp [results, Try.results24, go_sem, r0, r1, r2]) rfl ⟨_, rfl, .inr ⟨B, nn, D, by rw [← HP.out, ← HZ.out], Hok.out, ?_, by rw [← HZ.out, ← Hm.out.1]; exact Hall.out⟩, ((hbr.setCell (p := ⟨R0, 0, none⟩) (by rw [HR0.out]; exact Nat.le_refl _) _).setCell (p := ⟨R0, 1, none⟩) (by rw [HR0.out]; exact Nat.le_refl _) _).setCell (p := ⟨R0, 2, none⟩) (by rw [HR0.out]; exact Nat.le_refl _) _⟩
            exact ((Hown.out.kept (grown_setP _ ⟨R0, 0, none⟩ _) (by simpa using hne8)).kept (grown_setP _ ⟨R0, 1, none⟩ _) (by simpa using hne8)).kept (grown_setP _ ⟨R0, 2, none⟩ _) (by simpa using hne8)
      · have hno : okF (lb s) = false := okF_no (fun h9 => by rw [← HZ.out, ← HP.out] at h9; exact heq h9.2.2)
        have hx : ¬ F = bs (headP Z p) := fun h9 => heq (by rw [← K3.out, h9, lb_bs])
        have Hno := Lib.hid hno
        generalize bs (headP Z p) = Y at cH hx
        have hx2 : (F.toList == Y.toList) = false := by rw [beq_eq_false_iff_ne, Ne, toList_lb, toList_lb]; exact fun h9 => hx (by rw [← bs_lb F, h9, bs_lb])
        clear hno heq Hmay hx
        refine (cH _).mono ?_
        rintro e w3 ⟨rfl, hb3⟩
        clear cH
        obtain ⟨r0, r1, r2, f0, f1, f2⟩ := row_aggP (Hr0.out.next (below_chain hb2 hb3))
        have Hbel := Lib.hid (below_chain hl0 (below_chain hb2 hb3))
        go_wp2
        refine bodyPost_ret (v := .agg #[.int .i64 0, .int .i64 0, .map none]) (by simp [results, Try.results24, go_sem, r0, r1, r2]) rfl ⟨_, rfl, .inl ⟨rfl, Hno.out⟩, ((Hbel.out.setCell (p := ⟨R0, 0, none⟩) (by rw [HR0.out]; exact Nat.le_refl _) _).setCell (p := ⟨R0, 1, none⟩) (by rw [HR0.out]; exact Nat.le_refl _) _).setCell (p := ⟨R0, 2, none⟩) (by rw [HR0.out]; exact Nat.le_refl _) _⟩
end Go.Proofs.Ytpoeginnoocenaa
