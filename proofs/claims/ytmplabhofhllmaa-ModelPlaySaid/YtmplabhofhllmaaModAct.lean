/-
  MODEL: acts, as they lie in memory; the law's Great.
-/
import Derived.Test.YtmplabhofhllmaaMod6
namespace Go.Proofs.Ytmplabhofhllmaa
open Go.RowKit
set_option linter.unusedVariables false

structure ActM where
  kind : Nat
  s : ByteArray
  a : Int
  b : Int
  l : List Ev
abbrev ActP := Value × ActM
def actL (p : ActP) : List Value := [.int .u8 (p.2.kind : Int), .string p.2.s, .int .i64 p.2.a, .int .i64 p.2.b, p.1]
def actA (p : ActP) : Array Value := #[.int .u8 (p.2.kind : Int), .string p.2.s, .int .i64 p.2.a, .int .i64 p.2.b, p.1]
theorem actL_len (p : ActP) : (actL p).length = 5 := rfl
def actOk (w : World) (p : ActP) : Prop := Evs w p.1 p.2.l ∧ p.2.kind < 256 ∧ p.2.s.size ≤ maxLen ∧ (-9223372036854775808 ≤ p.2.a ∧ p.2.a ≤ 9223372036854775807) ∧ (-9223372036854775808 ≤ p.2.b ∧ p.2.b ≤ 9223372036854775807)
def ActsV (w : World) (v : Value) (X : List ActP) : Prop := Reads w v 5 X.length (X.flatMap actL) ∧ ∀ p ∈ X, actOk w p
theorem actOk.next {w w' : World} {p : ActP} (h : actOk w p) (hb : Below w.heap.size w w') : actOk w' p := ⟨h.1.next hb, h.2⟩
theorem ActsV.next {w w' : World} {v : Value} {X : List ActP} (h : ActsV w v X) (hb : Below w.heap.size w w') : ActsV w' v X := ⟨h.1.next hb, fun p hp => (h.2 p hp).next hb⟩
theorem ActsV.later {w : World} {A : Option Addr} {n c : Nat} {X : List ActP} (h : ActsV w (.slice A n c) X) (h0 : 0 < X.length) : ∃ b off, A = some ⟨b, off, none⟩ ∧ b < w.heap.size ∧
    ∀ (i : Nat) (p : ActP), X[i]? = some p → ∀ w' : World, Below w.heap.size w w' → w'.cell? ⟨b, off + i * 5, none⟩ = some (.int .u8 (p.2.kind : Int)) ∧ w'.cell? ⟨b, off + i * 5 + 1, none⟩ = some (.string p.2.s) ∧ w'.cell? ⟨b, off + i * 5 + 2, none⟩ = some (.int .i64 p.2.a) ∧ w'.cell? ⟨b, off + i * 5 + 3, none⟩ = some (.int .i64 p.2.b) ∧ w'.cell? ⟨b, off + i * 5 + 4, none⟩ = some p.1 := by
  obtain ⟨b, off, hA, hlt, hc⟩ := (Reads.each actL_len h.1).2.2.2 h0
  refine ⟨b, off, hA, hlt, fun i e hi w' hb => ?_⟩
  have h := hc i e hi w' hb
  exact ⟨by simpa [actL] using h 0 (by omega), by simpa [actL, Nat.add_assoc] using h 1 (by omega), by simpa [actL, Nat.add_assoc] using h 2 (by omega), by simpa [actL, Nat.add_assoc] using h 3 (by omega), by simpa [actL, Nat.add_assoc] using h 4 (by omega)⟩
def smallA (p : ActP) : Prop := p.2.s.size ≤ 300 ∧ p.2.l.length ≤ 20
theorem meas_lt {n k : Nat} (h : wrap64 ((k : Int) + 1) = (k : Int) + 1) (hk : k < n) : n - (intOf (.int .i64 (wrap64 ((k : Int) + 1)))).toNat < n - (intOf (.int .i64 (k : Int))).toNat := by
  rw [h]
  show n - ((k : Int) + 1).toNat < n - ((k : Int)).toNat
  omega
def GreatY (X : List ActP) (most : Nat) (e : Ending) : Prop := ∃ b, e = .returned (.bool b) ∧ (b = false → X.length ≤ most ∧ ∀ p ∈ X, smallA p)
set_option maxHeartbeats 4000000 in
theorem law_Great (v : Value) (X : List ActP) (most : Nat) (w : World) (h : ActsV w v X) (hm : most ≤ 1000) :
    Calls Try.prog 6 #[v, .int .i64 (most : Int)] w fun e w' => w = w' ∧ GreatY X most e := by
  obtain ⟨A, c, rfl, hc1, hc2, -⟩ := id h.1
  obtain ⟨n, hn⟩ : ∃ n, n = X.length := ⟨_, rfl⟩
  have HN := Lib.hid hn
  have H := Lib.hid h
  unfold maxLen at hc2
  have hnn : n ≤ 9223372036854775807 := by omega
  rw [← hn] at hc1 ⊢
  clear h hn
  have HNN := Lib.hid hnn
  have hms : (most : Int) ≤ 1000 := by omega
  clear hnn hc1 hc2
  go_enter Try.func6, Try.ntmps6
  go_wp2_with fail
  go_loopw [5] (fun i wr => ∃ k : Nat, k ≤ n ∧ i = .int .i64 (k : Int) ∧ (∀ m p, m < k → X[m]? = some p → smallA p) ∧ wr = w) (fun i _ => n - (intOf i).toNat)
  case atStart => exact ⟨0, by omega, rfl, fun m p hm => by omega, rfl⟩
  case round =>
    obtain ⟨k, hk, rfl, hall, rfl⟩ := hrel
    have Hall := Lib.hid hall
    clear hall
    by_cases hlt : k < n
    · have i1 : (k : Int) < n := by omega
      obtain ⟨p, hp⟩ : ∃ p, X[k]? = some p := ⟨_, List.getElem?_eq_getElem (by have := HN.out; omega)⟩
      obtain ⟨b, off, rfl, hblt, hcell⟩ := H.out.later (by have := HN.out; omega)
      obtain ⟨-, c1, -, -, c4⟩ := hcell k p hp _ (Below.refl _ _)
      have hok := H.out.2 p (List.mem_of_getElem? hp)
      obtain ⟨pv, ⟨pk, ps, pa, pb, pl⟩⟩ := p
      dsimp only at c1 c4
      obtain ⟨he, -, hs9, -⟩ := hok
      dsimp only at he hs9
      obtain ⟨Ae, ce, rfl, hce1, hce2, -⟩ := id he.1
      have HE := Lib.hid he
      have HP := Lib.hid hp
      unfold maxLen at hce2 hs9
      have hel : pl.length ≤ 9223372036854775807 := by omega
      have HEL := Lib.hid hel
      clear hcell he hp hce1 hce2 hel hblt hs9
      by_cases g1 : 300 < ps.size
      · have j1 : (300 : Int) < ps.size := by omega
        go_wp2
        go_ret
        exact ⟨rfl, true, rfl, fun h => by cases h⟩
      · have j1 : ¬ (300 : Int) < ps.size := by omega
        by_cases g2 : 20 < pl.length
        · have j2 : (20 : Int) < pl.length := by omega
          go_wp2
          go_ret
          exact ⟨rfl, true, rfl, fun h => by cases h⟩
        · have j2 : ¬ (20 : Int) < pl.length := by omega
          obtain ⟨q, hq⟩ : ∃ q, q = pl.length := ⟨_, rfl⟩
          rw [← hq] at j2 c4
          have HQ := Lib.hid hq
          clear hq
          go_wp2_with fail
          go_loopw [6] (fun i wr2 => ∃ j : Nat, j ≤ q ∧ i = .int .i64 (j : Int) ∧ wr2 = wr) (fun i _ => q - (intOf i).toNat)
          case atStart => exact ⟨0, by omega, rfl, rfl⟩
          case round =>
            obtain ⟨j, hj, rfl, rfl⟩ := hrel
            by_cases hjl : j < q
            · have j3 : (j : Int) < q := by omega
              obtain ⟨e, he⟩ : ∃ e, pl[j]? = some e := ⟨_, List.getElem?_eq_getElem (by have := HQ.out; omega)⟩
              obtain ⟨be, oe, rfl, -, hce⟩ := HE.out.later (by have := HQ.out; omega)
              obtain ⟨d0, d1, -⟩ := hce j e he _ (Below.refl _ _)
              clear hce he
              obtain ⟨e1, e2, e3⟩ := e
              dsimp only at d0 d1
              by_cases g3 : 300 < e1.size
              · have j4 : (300 : Int) < e1.size := by omega
                go_wp2
                go_ret
                exact ⟨rfl, true, rfl, fun h => by cases h⟩
              · have j4 : ¬ (300 : Int) < e1.size := by omega
                by_cases g4 : 300 < e2.size
                · have j5 : (300 : Int) < e2.size := by omega
                  go_wp2
                  go_ret
                  exact ⟨rfl, true, rfl, fun h => by cases h⟩
                · have j5 : ¬ (300 : Int) < e2.size := by omega
                  go_wp2
                  go_roundw
                  case rel => exact ⟨j + 1, by omega, by go_num, trivial⟩
                  case measure => simp [intOf]; omega
            · obtain rfl : j = q := by omega
              have hw : wrap64 ((k : Int) + 1) = (k : Int) + 1 := by have := HNN.out; unfold wrap64; omega
              go_wp2
              go_roundw
              case rel =>
                refine ⟨k + 1, by omega, by go_num, fun m p hm hp => ?_, trivial⟩
                rcases Nat.lt_or_ge m k with h9 | h9
                · exact Hall.out m p h9 hp
                · obtain rfl : m = k := by omega
                  rw [HP.out] at hp
                  cases hp
                  exact ⟨by simp only []; omega, by simp only []; omega⟩
              case measure =>
                exact meas_lt hw hlt
    · obtain rfl : k = n := by omega
      have hres : ∀ p ∈ X, smallA p := fun p hp => by
        obtain ⟨m, hm2, rfl⟩ := List.getElem_of_mem hp
        exact Hall.out m _ (by rw [HN.out]; exact hm2) (List.getElem?_eq_getElem hm2)
      have HR := Lib.hid hres
      clear hres hlt hk
      go_wp2
      go_ret
      refine ⟨rfl, _, rfl, fun h => ⟨by rw [← HN.out]; simp at h; omega, HR.out⟩⟩
end Go.Proofs.Ytmplabhofhllmaa
