/-
  BATCHES: the reference's Put.
-/
import Derived.Test.YtmplabhofhllmaaBatPut
import Derived.Deep.RegionHeldLaw
import Derived.Deep.RegionHeld3
namespace Go.Proofs.Ytmplabhofhllmaa
open Go.RowKit
set_option linter.unusedVariables false

theorem wp_meetX {P : Program} {c : Code} {Q : Exit → Act → World → Prop} {a : Act} {w : World} (R : Nat → World → Prop) (A : Nat → Act) (h1 : c.wp P (fun e a' w' => e = .normal ∧ ∃ x, a' = A x ∧ R x w') a w) (h2 : ∀ x w', R x w' → Q .normal (A x) w') : c.wp P Q a w :=
  Code.wp_mono (fun e a' w' h => by obtain ⟨rfl, x, rfl, h⟩ := h; exact h2 x w' h) h1
theorem with_conv {p q : Prop} (h : p) (k : p → q) : q := k h
theorem bAllocX {a w : World} (h : Below a.heap.size a w) (o : Obj) : Below a.heap.size a (w.alloc o) := h.alloc h.size o
theorem conv_again {W W' : World} {g n : Nat} (hr : Row W g 5 (cellsB [UInt8.ofNat n])) (hb : Below W.heap.size W W') :
    Row W' g 5 (cellsB [UInt8.ofNat n]) ∧ (convert 58 9 (.slice (some ⟨g, 0, none⟩) 1 1)).run Try.prog W' = .ok (.string (bs [UInt8.ofNat n])) W' :=
  ⟨hr.next hb, Row.conv (P := Try.prog) (cap := 1) (n := 1) (hr.next hb) rfl Try.underlying58 Try.underlying5 Try.underlying9⟩
theorem conv_after {X W : World} {g n : Nat} (hg : X.heap.size = g) (hn : n < 256) (hb : Below (X.alloc (.cells #[.int .u8 (n : Int)] 5)).heap.size (X.alloc (.cells #[.int .u8 (n : Int)] 5)) W) :
    Row W g 5 (cellsB [UInt8.ofNat n]) ∧ (convert 58 9 (.slice (some ⟨g, 0, none⟩) 1 1)).run Try.prog W = .ok (.string (bs [UInt8.ofNat n])) W := by
  subst hg
  have h := Row.new X #[.int .u8 (n : Int)] 5
  have e : (#[Value.int .u8 (n : Int)] : Array Value).toList = cellsB [UInt8.ofNat n] := by
    have : (UInt8.ofNat n).toNat = n := by simp; omega
    simp [cellsB]; omega
  rw [e] at h
  exact conv_again h hb

set_option maxHeartbeats 1000000 in
theorem refB_Put (v : Value) (b : Bat) (w : World) (h : BatV w v b) :
    Calls Try.prog 35 #[v] w fun e w' => e = .returned (.tuple #[.string (bs (putB b)), .int .i64 (checkB b)]) ∧ Below w.heap.size w w' := by
  have hck := fun w' (hb : Below w.heap.size w w') => refB_Check v b w' (h.next hb)
  have hparts := checkB_parts (b := b)
  have hy : checkB b = 0 → putB b = rawB b := fun h => by unfold putB; rw [if_pos h]
  have hno : checkB b ≠ 0 → putB b = [] := fun h => by unfold putB; rw [if_neg h]
  obtain ⟨s, f, l⟩ := b
  obtain ⟨A, c, rfl, hE, hs, hf1, hf2⟩ := h
  simp only [] at hE hs hf1 hf2 hck hparts ⊢
  obtain ⟨-, hc1, hc2, -⟩ := Reads.each evL_len hE.1
  unfold maxLen at hc2 hs
  have hz := lit_below w (.cells #[.string s, .int .i64 f, .slice A l.length c] 65)
  have hL := fun h0 => hE.later h0
  have ok := hE.2
  have hbox := box3 w (.string s) (.int .i64 f) (.slice A l.length c) 65
  by_cases h0 : checkB (s, f, l) = 0
  · obtain ⟨p1, p2, p3, p4, p5, p6, -⟩ := hparts h0
    obtain ⟨f, rfl⟩ := Int.eq_ofNat_of_zero_le p5
    rw [hy h0]
    have hraw : rawB (s, (f : Int), l) = (textL (lb s) ++ be 8 f ++ [UInt8.ofNat l.length]) ++ evsB l := by unfold rawB headB; simp
    rw [hraw]
    rw [h0] at hck ⊢
    have hT := fun w => ref_Text s w (by omega)
    have lT : (textL (lb s)).length ≤ 1000 := by rw [textL_length _ (by rw [length_lb]; omega), length_lb]; omega
    generalize textL (lb s) = T at hT lT ⊢
    obtain ⟨n, hN⟩ : ∃ n, n = l.length := ⟨_, rfl⟩
    rw [← hN] at p3 p4 p6 hc1 hz hck hbox ⊢
    have Hn := Lib.hid hN
    have HL := Lib.hid hL
    have Hok := Lib.hid ok
    have Hck := Lib.hid hck
    have hbl := fun k (hk : k ≤ n) => evsB_len (l := l.take k) 8 (by rw [List.length_take]; omega)
    have Hbl := Lib.hid hbl
    clear hN hL ok hE hy hno hparts h0 hraw hck hbl
    have u1 : IntKind.u64.wrap (f : Int) = (f : Int) := by rw [IntKind.wrap_u64]; omega
    have u2 : IntKind.u64.wrap (n : Int) = (n : Int) := by rw [IntKind.wrap_u64]; omega
    have u3 : IntKind.u8.wrap (n : Int) = (n : Int) := by rw [IntKind.wrap_u8]; omega
    have hn8 : n < 256 := by omega
    have hcv := fun w => conv_lit1 (P := Try.prog) (e := 5) (src := 58) (dst := 9) (n : Int) (by omega) (by omega) Try.underlying58 Try.underlying5 Try.underlying9 w
    rw [Int.toNat_natCast] at hcv
    have hcvd := fun w : World => (conv_after (X := w) (g := w.heap.size) rfl hn8 (Below.refl _ _).drew).2
    go_enter Try.func35, Try.ntmps35
    go_wp2_with fail
    refine (Hck.out _ hz).mono ?_
    rintro e w1 ⟨rfl, hb1'⟩
    have hbw := below_chain hz hb1'
    have HS := Lib.hid (show ∀ w', Below w1.heap.size w1 w' → w'.cell? ⟨w.heap.size, 0, none⟩ = some (.string s) ∧ w'.cell? ⟨w.heap.size, 1, none⟩ = some (.int .i64 (f : Int)) ∧ w'.cell? ⟨w.heap.size, 2, none⟩ = some (.slice A n c) from fun w' hb => hbox w' (below_chain hb1' hb))
    obtain ⟨-, -, g2⟩ := HS.out w1 (Below.refl _ _)
    have hP := fun w => ref_Put8v f w (by omega)
    clear hb1' hbox hz
    go_wp2_with fail
    clear g2
    obtain ⟨G, hG⟩ : ∃ G, G = w.heap.size := ⟨_, rfl⟩
    rw [← hG] at HS ⊢
    have HG := Lib.hid hG
    clear hG
    apply wp_meetX (fun g w' => Below w1.heap.size w1 w')
    case h1 =>
      refine wp_region_noPanic ?_
      go_region_held_law (fun w' => w'.cell? ⟨G, 0, none⟩ = some (.string s) ∧ w'.cell? ⟨G, 1, none⟩ = some (.int .i64 (f : Int)) ∧ w'.cell? ⟨G, 2, none⟩ = some (.slice A n c))
        ((refine HS.out _ ?_; repeat (first | exact Below.refl _ _ | assumption | refine Below.drew ?_ | refine bAllocX ?_ _ | refine below_chain ?_ (by assumption))))
        (first
          | (go_at_call 43; refine (hT _).mono ?_; rintro e wT ⟨rfl, hbT⟩; (first | (refine with_conv (conv_after (g := w1.heap.size) rfl hn8 hbT) ?_; rintro ⟨hrT, hcT⟩) | (refine with_conv (conv_after (g := w1.heap.size) rfl hn8 (below_chain (Below.refl _ _).drew hbT)) ?_; rintro ⟨hrT, hcT⟩) | (refine with_conv (conv_after (g := wT.heap.size) rfl hn8 hbT) ?_; rintro ⟨hrT, hcT⟩) | (refine with_conv (conv_after (g := wT.heap.size) rfl hn8 (below_chain (Below.refl _ _).drew hbT)) ?_; rintro ⟨hrT, hcT⟩) | (refine with_conv (conv_after (g := wP.heap.size) rfl hn8 hbT) ?_; rintro ⟨hrT, hcT⟩) | (refine with_conv (conv_after (g := wP.heap.size) rfl hn8 (below_chain (Below.refl _ _).drew hbT)) ?_; rintro ⟨hrT, hcT⟩) | (refine with_conv (conv_again hrP hbT) ?_; rintro ⟨hrT, hcT⟩) | skip))
          | (go_at_call 44; refine (hP _).mono ?_; rintro e wP ⟨rfl, hbP⟩; (first | (refine with_conv (conv_after (g := w1.heap.size) rfl hn8 hbP) ?_; rintro ⟨hrP, hcP⟩) | (refine with_conv (conv_after (g := w1.heap.size) rfl hn8 (below_chain (Below.refl _ _).drew hbP)) ?_; rintro ⟨hrP, hcP⟩) | (refine with_conv (conv_after (g := wT.heap.size) rfl hn8 hbP) ?_; rintro ⟨hrP, hcP⟩) | (refine with_conv (conv_after (g := wT.heap.size) rfl hn8 (below_chain (Below.refl _ _).drew hbP)) ?_; rintro ⟨hrP, hcP⟩) | (refine with_conv (conv_after (g := wP.heap.size) rfl hn8 hbP) ?_; rintro ⟨hrP, hcP⟩) | (refine with_conv (conv_after (g := wP.heap.size) rfl hn8 (below_chain (Below.refl _ _).drew hbP)) ?_; rintro ⟨hrP, hcP⟩) | (refine with_conv (conv_again hrT hbP) ?_; rintro ⟨hrP, hcP⟩) | skip)))
      all_goals (refine NoPanic.normal ?_)
      all_goals first
        | (obtain ⟨g1, h1⟩ : ∃ g, g = wT.heap.size := ⟨_, rfl⟩; rw [← h1]; exact ⟨rfl, g1, rfl, by subst h1; repeat (first | exact Below.refl _ _ | assumption | refine Below.drew ?_ | refine bAllocX ?_ _ | refine below_chain ?_ (by assumption))⟩)
        | (obtain ⟨g1, h1⟩ : ∃ g, g = wP.heap.size := ⟨_, rfl⟩; rw [← h1]; exact ⟨rfl, g1, rfl, by subst h1; repeat (first | exact Below.refl _ _ | assumption | refine Below.drew ?_ | refine bAllocX ?_ _ | refine below_chain ?_ (by assumption))⟩)
        | (obtain ⟨g1, h1⟩ : ∃ g, g = w1.heap.size := ⟨_, rfl⟩; rw [← h1]; exact ⟨rfl, g1, rfl, by subst h1; repeat (first | exact Below.refl _ _ | assumption | refine Below.drew ?_ | refine bAllocX ?_ _ | refine below_chain ?_ (by assumption))⟩)
    rintro g w2 hb2
    have hbw2 := below_chain hbw hb2
    have hg2 := HG.out
    subst hg2
    obtain ⟨-, -, g2⟩ := HS.out w2 hb2
    have HB2 := Lib.hid (fun w' (hb : Below w2.heap.size w2 w') => (HS.out w' (below_chain hb2 hb)).2.2)
    clear HS HG hP hT hcv hcvd hb2
    rw [bs_append, bs_append]
    obtain ⟨H, hH⟩ : ∃ H, H = T ++ be 8 f ++ [UInt8.ofNat n] := ⟨_, rfl⟩
    have hHl : H.length ≤ 2000 := by rw [hH]; simp; omega
    rw [← hH]
    have HH := Lib.hid hH
    clear hH
    go_wp2_with fail
    go_loopw [5, 6] (fun s i wr => ∃ k : Nat, k ≤ n ∧ i = .int .i64 (k : Int) ∧ s = .string (bs (H ++ evsB (l.take k))) ∧ Below w2.heap.size w2 wr) (fun _ i _ => n - (intOf i).toNat)
    case atStart => exact ⟨0, by omega, rfl, by simp [evsB], Below.refl _ _⟩
    case round =>
      obtain ⟨k, hk, rfl, rfl, hbr2⟩ := hrel
      have hbr := below_chain hbw2 hbr2
      have g2 := HB2.out wr hbr2
      by_cases hlt : k < n
      · obtain ⟨e, he⟩ : ∃ e, l[k]? = some e := ⟨_, List.getElem?_eq_getElem (by have := Hn.out; omega)⟩
        obtain ⟨b, off, rfl, -, hc⟩ := HL.out (by have := Hn.out; omega)
        obtain ⟨c0, c1, c2⟩ := hc k e he wr hbr
        have hyb := fun w => ref_Bytes e w (Hok.out e (List.mem_of_getElem? he))
        have hs2 := evsB_succ he
        have l1 := Hbl.out k hk
        have l2 := bytesV_length_le e
        have i1 : (k : Int) < n := by omega
        have i1' : ¬ (n : Int) ≤ k := by omega
        obtain ⟨S, hS⟩ : ∃ S, S = H ++ evsB (l.take k) := ⟨_, rfl⟩
        have hSl : S.length ≤ 5000 := by rw [hS, List.length_append]; omega
        rw [← hS]
        have hs3 : H ++ evsB (l.take (k + 1)) = S ++ bytesV e := by rw [hs2, hS, List.append_assoc]
        generalize bytesV e = B at hyb l2 hs3
        obtain ⟨e1, e2, e3⟩ := e
        unfold evC at hyb
        simp only [] at c0 c1 c2 hyb
        have Hs3 := Lib.hid hs3
        clear he hc hs2 hs3 hS
        go_wp2_with fail
        refine (hyb _).mono ?_
        rintro y w3 ⟨rfl, hb3⟩
        go_wp2
        go_roundw
        case rel => exact ⟨k + 1, by omega, by go_num, by rw [Hs3.out, bs_append], below_chain hbr2 hb3⟩
        case measure => simp [intOf]; omega
      · have i1 : ¬ (k : Int) < n := by omega
        have ht : evsB (l.take k) = evsB l := by rw [List.take_of_length_le (by have := Hn.out; omega)]
        have Ht := Lib.hid ht
        clear ht
        go_wp2
        refine bodyPost_ret (v := .tuple #[.string (bs (H ++ evsB (l.take k))), .int .i64 0]) (by simp [results, Try.results35, go_sem]) rfl ⟨ret_si (by rw [Ht.out, HH.out]; simp) rfl, hbr⟩
  · rw [hno h0]
    clear hy hno hparts
    have h0' : (checkB (s, f, l) == 0) = false := by rw [beq_eq_false_iff_ne]; exact h0
    generalize checkB (s, f, l) = ck at hck h0 h0'
    go_enter Try.func35, Try.ntmps35
    go_wp2_with fail
    refine (hck _ hz).mono ?_
    rintro e w1 ⟨rfl, hb1'⟩
    go_wp2
    refine bodyPost_ret (v := .tuple #[.string (⟨#[]⟩ : ByteArray), .int .i64 ck]) (by simp [results, Try.results35, go_sem]) rfl ⟨rfl, below_chain hz hb1'⟩
end Go.Proofs.Ytmplabhofhllmaa
