/-
  Rows.TablesTellSaid: the bytes of any entries, the entries of any bytes, and how many bytes there are and where an entry stands, are the document's, or refused.
-/
import Derived.Test.YtikodobglhjoiaaLaid
import Derived.Test.YtikodobglhjoiaaTables5
import Derived.Test.YtikodobglhjoiaaSame18
import Derived.Test.YtikodobglhjoiaaOpenEnt
namespace Go.Proofs.Ytikodobglhjoiaa
open Go.RowKit
set_option linter.unusedVariables false

theorem ToldT.ents {w : World} {base : Nat} {v : Value} {l : List Ent} (h : ToldT w base v l) : Ents w v l := ⟨Reads.of_own h.1, h.2⟩
theorem ex_Same18 (w : World) (va vb : Value) (a : List Ent) (ha : Ents w va a) (hb : Ents w vb a) :
    Calls Try.prog 48 #[va, vb] w fun e w' => e = .returned (.bool true) ∧ Below w.heap.size w w' := by
  have c := law_Same18 va vb a a w ha hb
  rw [decide_eq_true (show a = a from rfl)] at c
  exact c
theorem ref_SizeX (n r : Int) (w : World) (hn : -9223372036854775808 ≤ n ∧ n ≤ 9223372036854775807) (h : sizeT n = r) :
    Calls Try.prog 47 #[.int .i64 n] w fun e w' => e = .returned (.int .i64 r) ∧ w = w' := by rw [← h]; exact ref_Size n w hn

set_option maxHeartbeats 2000000 in
theorem TablesTell_walk (v0 : Value) (l : List Ent) (s : ByteArray) (n : Int) (w : World) (hl : Ents w v0 l) (hs : s.size ≤ maxLen) (hn : -9223372036854775808 ≤ n ∧ n ≤ 9223372036854775807) :
    Calls Try.prog 11 #[v0, .string s, .int .i64 n] w fun e w' => e = .returned (.bool true) ∧ Below w.heap.size w w' := by
  obtain ⟨⟨A, c, rfl, -, -, -, -⟩, -⟩ := id hl
  unfold maxLen at hs
  by_cases h1 : 100 < l.length
  · have h1' : (100 : Int) < l.length := by omega
    go_enter Try.func11, Try.ntmps11
    go_wp2_with fail
    refine (law_laid _).mono ?_
    rintro e w1 ⟨rfl, hb1⟩
    go_wp2
    go_ret
    exact ⟨rfl, hb1⟩
  · have h1' : ¬ (100 : Int) < l.length := by omega
    by_cases h2 : 3000 < s.size
    · have h2' : (3000 : Int) < s.size := by omega
      go_enter Try.func11, Try.ntmps11
      go_wp2_with fail
      refine (law_laid _).mono ?_
      rintro e w1 ⟨rfl, hb1⟩
      go_wp2
      go_ret
      exact ⟨rfl, hb1⟩
    · have h2' : ¬ (3000 : Int) < s.size := by omega
      have hP := fun w h => tables_Put (.slice A l.length c) l w h (by omega)
      have hQ := fun w h => ref_tPut (.slice A l.length c) l w h (by omega)
      have hG := fun w => tables_Get s w (by omega)
      have hH := fun w => ref_tGet s w (by omega)
      generalize putT l = P at hP hQ
      generalize errT l = er at hP hQ
      generalize tabE (lb s) = te at hG hH
      generalize tabL (lb s) = T at hG hH
      have Hl := Lib.hid hl
      have hS := fun w => tables_Size n w hn
      have hS2 := fun w => ref_Size n w hn
      have hA := fun w => tables_At n w hn
      have hrel : (0 < sizeT n ∧ atT n = sizeT n - 4 ∧ IntKind.i64.wrap (sizeT n - 4) = sizeT n - 4) ∨ (sizeT n = 0 ∧ atT n = 0) := by
        unfold sizeT atT
        split
        · exact .inr ⟨rfl, rfl⟩
        · exact .inl ⟨by omega, by omega, by rw [IntKind.wrap_i64]; omega⟩
      generalize sizeT n = sz at hS hS2 hrel
      generalize atT n = az at hA hrel
      have PP : (P == P) = true := by simp
      clear hl
      go_enter Try.func11, Try.ntmps11
      go_wp2_with fail
      refine (hP _ Hl.out).mono ?_
      rintro e w1 ⟨rfl, hb1⟩
      have hl1 := Hl.out.next hb1
      go_wp2_with fail
      refine (hQ _ hl1).mono ?_
      rintro e w2 ⟨rfl, hb2⟩
      go_wp2_with fail
      refine (hG _).mono ?_
      rintro e w3 ⟨vc, rfl, hT3, hb3⟩
      go_wp2_with fail
      refine (hH _).mono ?_
      rintro e w4 ⟨vd, rfl, hT4, hb4⟩
      have hB := below_chain hb1 (below_chain hb2 (below_chain hb3 hb4))
      have e3 := hT3.ents.next hb4
      have e4 := hT4.ents
      clear hP hQ hG hH hT3 hT4 hl1
      go_wp2_with fail
      refine (hS2 _).mono ?_
      rintro e w' ⟨rfl, rfl⟩
      rcases hrel with ⟨g1, g2, g3⟩ | ⟨g1, g2⟩
      · go_wp2_with fail
        refine (hS2 _).mono ?_
        rintro e w' ⟨rfl, rfl⟩
        go_wp2_with fail
        refine (ex_Same18 _ _ _ T e3 e4).mono ?_
        rintro e w5 ⟨rfl, hb5⟩
        go_wp2_with fail
        refine (hS _).mono ?_
        rintro e w' ⟨rfl, rfl⟩
        go_wp2_with fail
        refine (hS2 _).mono ?_
        rintro e w' ⟨rfl, rfl⟩
        go_wp2_with fail
        refine (hA _).mono ?_
        rintro e w' ⟨rfl, rfl⟩
        go_wp2_with fail
        refine (law_laid _).mono ?_
        rintro e w6 ⟨rfl, hb6⟩
        go_wp2
        go_ret
        exact ⟨rfl, below_chain hB (below_chain hb5 hb6)⟩
      · go_wp2_with fail
        refine (ex_Same18 _ _ _ T e3 e4).mono ?_
        rintro e w5 ⟨rfl, hb5⟩
        go_wp2_with fail
        refine (hS _).mono ?_
        rintro e w' ⟨rfl, rfl⟩
        go_wp2_with fail
        refine (hS2 _).mono ?_
        rintro e w' ⟨rfl, rfl⟩
        go_wp2_with fail
        refine (hA _).mono ?_
        rintro e w' ⟨rfl, rfl⟩
        go_wp2_with fail
        refine (law_laid _).mono ?_
        rintro e w6 ⟨rfl, hb6⟩
        go_wp2
        go_ret
        exact ⟨rfl, below_chain hB (below_chain hb5 hb6)⟩
end Go.Proofs.Ytikodobglhjoiaa
