/-
  BATCHES: the program's Put.
-/
import Derived.Test.YtmplabhofhllmaaBat
namespace Go.Proofs.Ytmplabhofhllmaa
open Go.RowKit
set_option linter.unusedVariables false

theorem nums_Put1v (n : Nat) (w : World) (hn : n < 18446744073709551616) :
    Calls Try.prog 40 #[.int .u64 n, .int .i64 1] w fun e w' => e = .returned (.string (bs [UInt8.ofNat (n % 256)])) ∧ Below w.heap.size w w' := by
  have c := nums_Put n 1 w (by omega) (by omega)
  have e : putL n 1 = [UInt8.ofNat (n % 256)] := by unfold putL; rw [if_neg (by omega)]; rfl
  rw [Int.toNat_natCast, e] at c
  exact c
theorem ret_si {a a' : ByteArray} {i i' : Int} (h : a = a') (h2 : i = i') : Ending.returned (.tuple #[.string a, .int .i64 i]) = .returned (.tuple #[.string a', .int .i64 i']) := by rw [h, h2]
theorem ofNat_mod (n : Nat) : UInt8.ofNat (n % 256) = UInt8.ofNat n := by
  apply UInt8.toNat_inj.1
  simp

set_option maxHeartbeats 1000000 in
theorem batches_Put (v : Value) (b : Bat) (w : World) (h : BatV w v b) :
    Calls Try.prog 33 #[v] w fun e w' => e = .returned (.tuple #[.string (bs (putB b)), .int .i64 (checkB b)]) ∧ Below w.heap.size w w' := by
  have hck := fun w' (hb : Below w.heap.size w w') => batches_Check v b w' (h.next hb)
  have hparts := checkB_parts (b := b)
  have hy : checkB b = 0 → putB b = rawB b := fun h => by unfold putB; rw [if_pos h]
  have hno : checkB b ≠ 0 → putB b = [] := fun h => by unfold putB; rw [if_neg h]
  obtain ⟨s, f, l⟩ := b
  obtain ⟨A, c, rfl, hE, hs, hf1, hf2⟩ := h
  simp only [] at hE hs hf1 hf2 hck hparts ⊢
  obtain ⟨-, hc1, hc2, -⟩ := Reads.each evL_len hE.1
  unfold maxLen at hc2 hs
  have hz := lit_below w (.cells #[.string s, .int .i64 f, .slice A l.length c] 65)
  have hL := fun h0 => hE.later h0
  have ok := hE.2
  have hbox := box3 w (.string s) (.int .i64 f) (.slice A l.length c) 65
  by_cases h0 : checkB (s, f, l) = 0
  · obtain ⟨p1, p2, p3, p4, p5, p6, -⟩ := hparts h0
    obtain ⟨f, rfl⟩ := Int.eq_ofNat_of_zero_le p5
    rw [hy h0]
    have hraw : rawB (s, (f : Int), l) = (textL (lb s) ++ be 8 f ++ [UInt8.ofNat l.length]) ++ evsB l := by unfold rawB headB; simp
    rw [hraw]
    rw [h0] at hck ⊢
    have hT := fun w => nums_Text s w (by omega)
    have lT : (textL (lb s)).length ≤ 1000 := by rw [textL_length _ (by rw [length_lb]; omega), length_lb]; omega
    generalize textL (lb s) = T at hT lT ⊢
    obtain ⟨n, hN⟩ : ∃ n, n = l.length := ⟨_, rfl⟩
    rw [← hN] at p3 p4 p6 hc1 hz hck hbox ⊢
    have Hn := Lib.hid hN
    have HL := Lib.hid hL
    have Hok := Lib.hid ok
    have Hck := Lib.hid hck
    have hbl := fun k (hk : k ≤ n) => evsB_len (l := l.take k) 8 (by rw [List.length_take]; omega)
    have Hbl := Lib.hid hbl
    clear hN hL ok hE hy hno hparts h0 hraw hck hbl
    have u1 : IntKind.u64.wrap (f : Int) = (f : Int) := by rw [IntKind.wrap_u64]; omega
    have u2 : IntKind.u64.wrap (n : Int) = (n : Int) := by rw [IntKind.wrap_u64]; omega
    have hb1 := fun w => nums_Put1v n w (by omega)
    rw [ofNat_mod] at hb1
    go_enter Try.func33, Try.ntmps33
    go_wp2_with fail
    refine (Hck.out _ hz).mono ?_
    rintro e w1 ⟨rfl, hb1'⟩
    have hcc := fun x : Later w1 => hbox x.it (below_chain hb1' x.ok)
    have hc0 := fun x => (hcc x).1
    have hc1x := fun x => (hcc x).2.1
    have hc2x := fun x => (hcc x).2.2
    have hbw := below_chain hz hb1'
    clear hcc
    go_wp2_with fail
    refine wp_region_below (by kernel_rfl) (by kernel_rfl) ?_
    repeat (first | go_big_quiet_skip | (go_big_quiet_want; go_big_quiet_op; go_big_quiet_on) | (go_big_quiet_want; go_big_quiet_op; apply Exists.intro; refine ⟨fun x => ?_, ?_⟩; (first | (go_at_call 39; exact calls_below x (hT _)) | (go_at_call 40; with_reducible exact calls_below x (nums_Put8v f _ (by omega))) | (go_at_call 40; with_reducible exact calls_below x (hb1 _))); go_big_quiet_on))
    refine wpQuiet_nil ?_
    intro _ hx
    obtain ⟨⟨w2, hb2⟩, rfl⟩ := hx
    rename_i w2
    have hbw2 := below_chain hbw hb2
    obtain ⟨-, -, g2⟩ := hbox w2 (below_chain hb1' hb2)
    clear hc0 hc1x hc2x hbox hb1' hb2 hT
    rw [bs_append, bs_append]
    obtain ⟨H, hH⟩ : ∃ H, H = T ++ be 8 f ++ [UInt8.ofNat n] := ⟨_, rfl⟩
    have hHl : H.length ≤ 2000 := by rw [hH]; simp; omega
    rw [← hH]
    have HH := Lib.hid hH
    clear hH
    go_wp2_with fail
    go_loopw [5, 30] (fun s i wr => ∃ k : Nat, k ≤ n ∧ i = .int .i64 (k : Int) ∧ s = .string (bs (H ++ evsB (l.take k))) ∧ Below w.heap.size w wr) (fun _ i _ => n - (intOf i).toNat)
    case atStart => exact ⟨0, by omega, rfl, by simp [evsB], hbw2⟩
    case round =>
      obtain ⟨k, hk, rfl, rfl, hbr⟩ := hrel
      by_cases hlt : k < n
      · obtain ⟨e, he⟩ : ∃ e, l[k]? = some e := ⟨_, List.getElem?_eq_getElem (by have := Hn.out; omega)⟩
        obtain ⟨b, off, rfl, -, hc⟩ := HL.out (by have := Hn.out; omega)
        obtain ⟨c0, c1, c2⟩ := hc k e he wr hbr
        have hyb := fun w => events_Bytes e w (Hok.out e (List.mem_of_getElem? he))
        have hs2 := evsB_succ he
        have hbx := ev_box wr e 46
        have hz2 := lit_below wr (.cells (evC e) 46)
        have l1 := Hbl.out k hk
        have l2 := bytesV_length_le e
        have i1 : (k : Int) < n := by omega
        have i1' : ¬ (n : Int) ≤ k := by omega
        obtain ⟨S, hS⟩ : ∃ S, S = H ++ evsB (l.take k) := ⟨_, rfl⟩
        have hSl : S.length ≤ 5000 := by rw [hS, List.length_append]; omega
        rw [← hS]
        have hs3 : H ++ evsB (l.take (k + 1)) = S ++ bytesV e := by rw [hs2, hS, List.append_assoc]
        generalize bytesV e = B at hyb l2 hs3
        obtain ⟨e1, e2, e3⟩ := e
        unfold evC at hyb hbx hz2
        simp only [] at c0 c1 c2 hyb hbx hz2
        have Hs3 := Lib.hid hs3
        clear he hc hs2 hs3 hS
        obtain ⟨x0, x1, x2⟩ := hbx _ (Below.refl _ _)
        go_wp2_with fail
        refine (hyb _).mono ?_
        rintro y w3 ⟨rfl, hb3⟩
        go_wp2
        go_roundw
        case rel => exact ⟨k + 1, by omega, by go_num, by rw [Hs3.out, bs_append], below_chain hbr (below_chain hz2 hb3)⟩
        case measure => simp [intOf]; omega
      · have i1 : ¬ (k : Int) < n := by omega
        have ht : evsB (l.take k) = evsB l := by rw [List.take_of_length_le (by have := Hn.out; omega)]
        have Ht := Lib.hid ht
        clear ht
        go_wp2
        refine bodyPost_ret (v := .tuple #[.string (bs (H ++ evsB (l.take k))), .int .i64 0]) (by simp [results, Try.results33, go_sem]) rfl ⟨ret_si (by rw [Ht.out, HH.out]; simp) rfl, hbr⟩
  · rw [hno h0]
    clear hy hno hparts
    have h0' : (checkB (s, f, l) == 0) = false := by rw [beq_eq_false_iff_ne]; exact h0
    generalize checkB (s, f, l) = ck at hck h0 h0'
    go_enter Try.func33, Try.ntmps33
    go_wp2_with fail
    refine (hck _ hz).mono ?_
    rintro e w1 ⟨rfl, hb1'⟩
    go_wp2
    refine bodyPost_ret (v := .tuple #[.string (⟨#[]⟩ : ByteArray), .int .i64 ck]) (by simp [results, Try.results33, go_sem]) rfl ⟨rfl, below_chain hz hb1'⟩
end Go.Proofs.Ytmplabhofhllmaa
