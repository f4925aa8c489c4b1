/-
  blooms.Make by its contract.
-/
import Derived.Test.YtpoeginnoocenaaBloomBits
import Derived.Test.YtpoeginnoocenaaMade
namespace Go.Proofs.Ytpoeginnoocenaa
open Go.RowKit Go.Shelf
set_option linter.unusedVariables false

attribute [local go_sem] Oper.semAt_some

def u64C (l : List Nat) : List Value := l.map fun n : Nat => .int .u64 (n : Int)
@[simp, go_sem] theorem length_u64C (l : List Nat) : (u64C l).length = l.length := by simp [u64C]
def U64s (w : World) (v : Value) (l : List Nat) : Prop := Reads w v 1 l.length (u64C l) ∧ ∀ h ∈ l, h < 18446744073709551616
theorem U64s.next {w w' : World} {v : Value} {l : List Nat} (h : U64s w v l) (hb : Below w.heap.size w w') : U64s w' v l := ⟨h.1.next hb, h.2⟩
theorem Reads.at_ {w : World} {A : Option Addr} {n c : Nat} {xs : List Value} (h : Reads w (.slice A n c) 1 n xs) (h0 : 0 < n) : ∃ b off, A = some ⟨b, off, none⟩ ∧ n ≤ c ∧ c ≤ maxLen ∧ xs.length = n ∧ ∀ (w' : World), Below w.heap.size w w' → ∀ j (h : j < xs.length), w'.cell? ⟨b, off + j, none⟩ = some xs[j] := by
  obtain ⟨A', c', hv, h1, h2, hl, hc⟩ := h
  obtain ⟨rfl, -, rfl⟩ := Value.slice.inj hv
  obtain ⟨b, off, rfl, hlt, hcell⟩ := hc h0
  exact ⟨b, off, rfl, h1, h2, by omega, fun w' hb j hj => (hb.cell (p := ⟨b, off + j, none⟩) hlt).trans (hcell j hj)⟩
theorem row_own {β : Type} (g : Nat) (e : TypeId) (f : β → List Value) : Own (fun s W => Row W g e (f s)) := fun s X Y row hs hg hrow => by
  refine hs.grown hg fun e' => ?_
  obtain ⟨C, fr, hC, _⟩ := hs
  obtain ⟨o, ho, hc⟩ := hrow g e'.symm
  rw [hC] at ho; cases ho; cases hc

/-- Marks that loops over iterators have left: each one's block is empty, no two are one. -/
def Marks (B : Nat) (ds : List Deferred) (W : World) : Prop := ds.Pairwise (fun d e => d ≠ e) ∧ ∀ d ∈ ds, ∃ D, d = { target := .collected D, args := #[] } ∧ B ≤ D ∧ W.heap[D]? = some (.deferred (some []))
theorem Marks.nil (B : Nat) (W : World) : Marks B [] W := ⟨List.Pairwise.nil, fun d hd => by cases hd⟩
theorem Marks.keeps {B : Nat} {ds : List Deferred} {W W' : World} (h : Marks B ds W) (hk : ∀ D, B ≤ D → W.heap[D]? = some (.deferred (some [])) → W'.heap[D]? = some (.deferred (some []))) : Marks B ds W' :=
  ⟨h.1, fun d hd => let ⟨D, e, hB, hD⟩ := h.2 d hd; ⟨D, e, hB, hk D hB hD⟩⟩
theorem Marks.cons {B D b0 : Nat} {ds : List Deferred} {W W' : World} (h : Marks B ds W') (hw : Marks B ds W) (hb : W.heap.size ≤ b0) (hD : b0 ≤ D) (hB : B ≤ D) (hK : W'.heap[D]? = some (.deferred (some []))) : Marks B ({ target := .collected D, args := #[] } :: ds) W' := by
  refine ⟨List.pairwise_cons.2 ⟨fun e he heq => ?_, h.1⟩, fun d hd => ?_⟩
  · obtain ⟨D', e', _, hD'⟩ := hw.2 e he
    rw [e'] at heq
    have h1 : D = D' := by injection heq with h1 h2; injection h1
    have := (Array.getElem?_eq_some_iff.1 hD').1
    omega
  · rcases List.mem_cons.1 hd with rfl | hd
    · exact ⟨D, rfl, hB, hK⟩
    · exact h.2 d hd
/-- Empty blocks of marks that lay stay. -/
def KeepsDef (W0 W : World) : Prop := ∀ D, D < W0.heap.size → W0.heap[D]? = some (.deferred (some [])) → W.heap[D]? = some (.deferred (some []))
theorem keepsDef_own {β : Type} (W0 : World) : OwnFrom W0.heap.size (fun (_ : β) W => KeepsDef W0 W) := fun s X Y row hs hg hr D hD h => by
  have h1 := hs D hD h
  refine (hg.block D (Array.getElem?_eq_some_iff.1 h1).1 fun e => ?_).trans h1
  have := (hr D e.symm).1
  omega
theorem KeepsDef.set {W0 W : World} (h : KeepsDef W0 W) {p : Addr} {v u : Value} (hc : W.cell? p = some v) : KeepsDef W0 (W.setCell p u) := fun D hD h0 => by
  have h1 := h D hD h0
  refine (Below.heap_setCell _ _ _ _ fun e => ?_).trans h1
  subst e
  unfold World.cell? at hc
  rw [h1] at hc; cases hc
theorem leaves_marks {F : Fence} {n : Nat} {P : Program} {fn : Func} {tmps : Array Value} {R : Ending → World → Prop} {B : Nat} {Z : World → Prop} (hZ : ∀ W D, Z W → B ≤ D → W.heap[D]? = some (.deferred (some [])) → Z (W.putObj D (.deferred none)))
    (hend : ∀ W, Z W → LeavesInM F n P fn tmps R [] .returning W) : ∀ (ds : List Deferred) (W : World), Marks B ds W → Z W → LeavesInM F n P fn tmps R ds .returning W
  | [], W, _, hz => hend W hz
  | d :: ds, W, hm, hz => by
    obtain ⟨D, rfl, hB, hD⟩ := hm.2 d (List.mem_cons_self ..)
    refine ⟨by simp, .inl ⟨_, _, rfl, run_takeDeferred hD, ?_⟩⟩
    refine leaves_marks hZ hend ds _ ⟨(List.pairwise_cons.1 hm.1).2, fun e he => ?_⟩ (hZ _ _ hz hB hD)
    obtain ⟨D', rfl, hB', hD'⟩ := hm.2 e (List.mem_cons_of_mem _ he)
    refine ⟨D', rfl, hB', ?_⟩
    rw [World.putObj_heap_other (fun e => (List.pairwise_cons.1 hm.1).1 _ he (by rw [e]))]
    exact hD'

set_option maxRecDepth 100000 in
set_option maxHeartbeats 4000000 in
theorem blooms_Make (v : Value) (l : List Nat) (n bits : Int) (w : World) (hv : U64s w v l) (hl : l.length ≤ 1000000) (hn : -9223372036854775808 ≤ n ∧ n ≤ 9223372036854775807) (hbits : -9223372036854775808 ≤ bits ∧ bits ≤ 9223372036854775807) :
    Calls Try.prog 19 #[v, .int .i64 n, .int .i64 bits] w fun e w' => e = .returned (.string (bs (makeL l n bits))) ∧ Below w.heap.size w w' := by
  obtain ⟨hr, hsm⟩ := hv
  obtain ⟨A, c, rfl, hc1, hc2, -, -⟩ := id hr
  unfold maxLen at hc2
  by_cases hno : bits < 1 ∨ 1000000 < bits ∨ bits % 8 ≠ 0
  · have e : makeL l n bits = [] := if_pos hno
    rw [e]; clear e
    obtain ⟨hb1, hb2⟩ := hbits
    by_cases h1 : bits < 1
    · clear hno
      go_enter Try.func19, Try.ntmps19
      go_wp2
      go_ret
      exact ⟨rfl, Below.refl _ _⟩
    · obtain ⟨b, rfl⟩ := Int.eq_ofNat_of_zero_le (a := bits) (by omega)
      have d1 : decide ((b : Int) < 1) = false := by rw [decide_eq_false_iff_not]; exact h1
      by_cases h2 : 1000000 < b
      · have d2 : decide ((1000000 : Int) < b) = true := by rw [decide_eq_true_iff]; omega
        clear hno h1 h2 hb1 hb2
        go_enter Try.func19, Try.ntmps19
        go_wp2
        go_ret
        exact ⟨rfl, Below.refl _ _⟩
      · have d2 : decide ((1000000 : Int) < b) = false := by rw [decide_eq_false_iff_not]; omega
        have d3 : (((b : Int) % 8) != 0) = true := by rw [bne_iff_ne]; omega
        clear hno h1 h2 hb1 hb2
        go_enter Try.func19, Try.ntmps19
        go_wp2
        go_ret
        exact ⟨rfl, Below.refl _ _⟩
  · obtain ⟨q, hq⟩ : ∃ q : Nat, bits = ((8 * q : Nat) : Int) := ⟨(bits / 8).toNat, by omega⟩
    subst hq
    have hq1 : 0 < q := by omega
    have hq2 : q ≤ 125000 := by omega
    have e : makeL l n ((8 * q : Nat) : Int) = packL (onB l n (8 * q)) q := by
      unfold makeL
      rw [if_neg hno]; congr 1 <;> omega
    rw [e]; clear e hno hbits
    obtain ⟨B, hB⟩ : ∃ B, B = 8 * q := ⟨_, rfl⟩
    rw [← hB]
    have d1 : decide ((B : Int) < 1) = false := by rw [decide_eq_false_iff_not]; omega
    have d2 : decide ((1000000 : Int) < B) = false := by rw [decide_eq_false_iff_not]; omega
    have d3 : (((B : Int) % 8) != 0) = false := by rw [bne_eq_false_iff_eq]; omega
    have d4 : (B : Int) / 8 = (q : Int) := by omega
    have HBe := Lib.hid hB
    have Hsm := Lib.hid hsm
    clear hB hsm
    obtain ⟨w1, hmk, hrow1, hb1⟩ := make_bytes w q (by omega)
    refine (callsIn_wide (n := 5)).1 ?_
    refine callsIn_of_wp_marks Try.func19 rfl trivial ?_ rfl
    simp only [Try.ntmps19, List.size_toArray, List.length_cons, List.length_nil, Nat.reduceAdd, Nat.reduceSub, Array.replicate_succ, Array.replicate_zero, List.push_toArray, List.append_toArray, List.nil_append, List.cons_append]
    gi_wp2
    obtain ⟨G, hG⟩ : ∃ G, G = w.heap.size := ⟨_, rfl⟩
    obtain ⟨Bx, hBx⟩ : ∃ B, B = w1.heap.size := ⟨_, rfl⟩
    rw [← hG] at hrow1 hmk ⊢
    have hGB : G < Bx := by rw [hBx]; exact hrow1.lt
    have hb2 : Below w.heap.size w (w1.alloc (Obj.cells #[Value.slice (some ⟨G, 0, none⟩) q q] 34)) := hb1.alloc hb1.size _
    have hrow2 : Row (w1.alloc (Obj.cells #[Value.slice (some ⟨G, 0, none⟩) q q] 34)) G 5 (cellsB (packL (onB (l.take 0) n B) q)) := by
      rw [List.take_zero, onB_nil, packL_none]; exact hrow1.alloc _
    have hbx2 : Boxed (w1.alloc (Obj.cells #[Value.slice (some ⟨G, 0, none⟩) q q] 34)) Bx 34 (.slice (some ⟨G, 0, none⟩) q q) := by rw [hBx]; exact Boxed.new w1 _ _
    rw [← hBx]
    have hwG : w.heap.size ≤ G := by rw [hG]; exact Nat.le_refl _
    generalize (w1.alloc (Obj.cells #[Value.slice (some ⟨G, 0, none⟩) q q] 34)) = w2 at hb2 hrow2 hbx2 ⊢
    clear hmk hrow1 hb1 hG hBx
    refine wpIn_loop (fun a' wr => ∃ (k : Nat) (ds : List Deferred) (u9 u28 u29 u30 u31 u32 u33 u34 u46 : Value), (k ≤ l.length ∧ Row wr G 5 (cellsB (packL (onB (l.take k) n B) q)) ∧ Boxed wr Bx 34 (.slice (some ⟨G, 0, none⟩) q q) ∧ Below w.heap.size w wr ∧ Marks w.heap.size ds wr) ∧
      a' = { tmps := #[.slice A l.length c, .int .i64 n, .int .i64 (B : Int), undef, undef, undef, .string ⟨#[]⟩, .pointer (some ⟨Bx, 0, none⟩), undef, u9, undef, .int .i64 (B : Int), .bool false, .bool false, .int .i64 (B : Int), .bool false, .bool false, .bool false, .int .i64 (B : Int), .int .i64 ((B : Int) % 8), .bool false, .bool false, .int .i64 (B : Int), .int .i64 (q : Int),
        .slice (some ⟨G, 0, none⟩) q q, .slice A l.length c, .int .i64 (l.length : Int), .int .i64 (k : Int), u28, u29, u30, u31, u32, u33, u34, undef, undef, undef, undef, undef, undef, undef, undef, undef, undef, undef, u46, undef, undef], defers := ds })
      (fun a' _ => l.length - (intOf (a'.tmps.getD 27 undef)).toNat) ⟨0, [], undef, undef, undef, undef, undef, undef, undef, undef, undef, ⟨Nat.zero_le _, hrow2, hbx2, hb2, Marks.nil _ _⟩, rfl⟩ ?_
    rintro a' wr ⟨k, ds, u9, u28, u29, u30, u31, u32, u33, u34, u46, ⟨hk, hrow, hbx, hbr, hmarks⟩, rfl⟩
    clear hrow2 hbx2 hb2
    by_cases hlt : k < l.length
    · obtain ⟨b, off, rfl, -, -, -, hcell⟩ := hr.at_ (by omega)
      have hc0 : wr.cell? ⟨b, off + k, none⟩ = some (.int .u64 (l[k] : Nat)) := (hcell wr hbr k (by simp; omega)).trans (by simp [u64C])
      have hh := Hsm.out l[k] (List.getElem_mem hlt)
      have hsucc : onB (l.take (k + 1)) n B = orList (onB (l.take k) n B) (probesL l[k] B (manyN n)) := by
        rw [List.take_succ_eq_append_getElem hlt, onB_snoc]
      obtain ⟨h, hhe⟩ : ∃ h, h = l[k] := ⟨_, rfl⟩
      rw [← hhe] at hc0 hh hsucc
      have i1 : (k : Int) < l.length := by omega
      have Hsucc := Lib.hid hsucc
      have Hrow := Lib.hid hrow
      have Hmarks := Lib.hid hmarks
      clear hcell hsucc hhe hrow hmarks
      have hh64 := hh
      gi_wp2_with fail
      refine ⟨trivial, ?_⟩
      refine (callsIn_wide.2 (bloom_each _ _ _ _)).mono ?_
      rintro e w3 ⟨rfl, rfl⟩
      gi_wp2_with fail
      obtain ⟨H, hH⟩ : ∃ H, H = wr.heap.size := ⟨_, rfl⟩
      obtain ⟨W0, hW0⟩ : ∃ W0, W0 = ((wr.alloc (Obj.cells #[Value.int IntKind.u64 (h : Int)] 22)).alloc (Obj.cells #[Value.int IntKind.i64 n] 3)).alloc (Obj.cells #[Value.int IntKind.i64 (B : Int)] 3) := ⟨_, rfl⟩
      have b3 : Boxed W0 H 22 (.int .u64 (h : Int)) := by rw [hW0, hH]; exact ((Boxed.new wr _ _).alloc _).alloc _
      have b4 : Boxed W0 (H + 1) 3 (.int .i64 n) := by
        rw [hW0, hH]; have := Boxed.new (wr.alloc (Obj.cells #[Value.int IntKind.u64 (h : Int)] 22)) 3 (.int .i64 n); rw [World.size_alloc] at this; exact this.alloc _
      have b5 : Boxed W0 (H + 1 + 1) 3 (.int .i64 (B : Int)) := by
        rw [hW0, hH]; have := Boxed.new ((wr.alloc (Obj.cells #[Value.int IntKind.u64 (h : Int)] 22)).alloc (Obj.cells #[Value.int IntKind.i64 n] 3)) 3 (.int .i64 (B : Int)); rw [World.size_alloc, World.size_alloc] at this; exact this
      have hB0 : Below w.heap.size w W0 := by
        rw [hW0]; exact (((hbr.alloc hbr.size _).alloc (by have := hbr.size; simp; omega) _).alloc (by have := hbr.size; simp; omega) _)
      have hsz : W0.heap.size = H + 3 := by rw [hW0, hH]; simp
      have hrow0 : Row W0 G 5 (cellsB (packL (onB (l.take k) n B) q)) := by rw [hW0]; exact ((Hrow.out.alloc _).alloc _).alloc _
      have hbx0 : Boxed W0 Bx 34 (.slice (some ⟨G, 0, none⟩) q q) := by rw [hW0]; exact ((hbx.alloc _).alloc _).alloc _
      have hm0 : Marks w.heap.size ds W0 := by
        refine Hmarks.out.keeps fun D hD hk => ?_
        have hlt := (Array.getElem?_eq_some_iff.1 hk).1
        rw [hW0]
        exact (Below.heap_alloc _ _ _ (by simp; omega)).trans ((Below.heap_alloc _ _ _ (by simp; omega)).trans ((Below.heap_alloc _ _ _ hlt).trans hk))
      have hBxH : Bx < H := by rw [hH]; exact hbx.lt
      have hwH : w.heap.size ≤ H := by rw [hH]; exact hbr.size
      rw [← hH, ← hW0]
      obtain ⟨f, hf⟩ : ∃ f, f = onB (l.take k) n B := ⟨_, rfl⟩
      rw [← hf] at hrow0
      have Hf := Lib.hid hf
      clear hW0 hH hf Hrow Hmarks hbx hbr hc0
      refine wpIn_rangeFunc_ownG rfl (by omega) (gf := 47) (lb := #[.pointer (some ⟨H + 1, 0, none⟩), .pointer (some ⟨H, 0, none⟩), .pointer (some ⟨H + 1 + 1, 0, none⟩)]) rfl trivial (enters_of Try.func47 (by kernel_rfl) rfl)
        (bloom_stops _ (by omega) (H + 1) H (H + 1 + 1) h hh64 n hn B (by have := HBe.out; omega) (by have := HBe.out; omega) W0 b4 b3 b5) keeps3_t (keeps3_b (by omega) (by omega) (by omega)) (Below.refl _ _) (fun _ => rfl)
        (fun pre W => Row W G 5 (cellsB (packL (orList f (vals pre)) q)) ∧ Boxed W Bx 34 (.slice (some ⟨G, 0, none⟩) q q) ∧ Below w.heap.size w W ∧ KeepsDef W0 W)
        (fun _ _ _ => False)
        ?own (fun _ _ _ _ _ hs _ _ => hs)
        ⟨by simpa [vals, orList_nil] using hrow0, hbx0, hB0, fun D _ h => h⟩
        (fun x => { tmps := #[.slice (some ⟨b, off, none⟩) l.length c, .int .i64 n, .int .i64 (B : Int), undef, undef, undef, .string ⟨#[]⟩, .pointer (some ⟨Bx, 0, none⟩), undef, .int .u64 (h : Int), .int .i64 ((x.1 : Nat) : Int), .int .i64 (B : Int), .bool false, .bool false, .int .i64 (B : Int), .bool false, .bool false, .bool false, .int .i64 (B : Int), .int .i64 ((B : Int) % 8), .bool false, .bool false, .int .i64 (B : Int), .int .i64 (q : Int),
          .slice (some ⟨G, 0, none⟩) q q, .slice (some ⟨b, off, none⟩) l.length c, .int .i64 (l.length : Int), .int .i64 (k : Int), .bool true, .pointer (some ⟨b, off + k, none⟩), .int .u64 (h : Int), .int .u64 (h : Int), .int .i64 n, .int .i64 (B : Int), .func (.func 47) #[] #[.pointer (some ⟨H + 1, 0, none⟩), .pointer (some ⟨H, 0, none⟩), .pointer (some ⟨H + 1 + 1, 0, none⟩)], .int .i64 ((x.1 : Nat) : Int), undef, undef, undef, undef, undef, undef, undef, undef, undef, undef, u46, undef, undef], defers := [] }) ?assign ?body ?done ?stop
      case own =>
        exact OwnFrom.and (Own.from (row_own _ _ _) _) (OwnFrom.and (Own.from (boxed_own _ _ _) _) (OwnFrom.and (ownFrom_below (Nat.le_refl _) (by omega)) (keepsDef_own W0)))
      case assign =>
        intro r x W K hK
        gi_wp2
        exact hK
      case body =>
        rintro r pre ⟨bt, hbt⟩ W ⟨g1, g2, g3, g4⟩ _
        have hq8 : bt / 8 < q := by have := HBe.out; omega
        have hlen : bt / 8 < (cellsB (packL (orList f (vals pre)) q)).length := by rw [length_cellsB, length_packL]; exact hq8
        obtain ⟨x, hx⟩ : ∃ x, x = byte8 fun i => orList f (vals pre) (8 * (bt / 8) + i) := ⟨_, rfl⟩
        have hx256 : x < 256 := by rw [hx]; exact byte8_lt _
        have hcx : W.cell? ⟨G, bt / 8, none⟩ = some (.int .u8 (x : Int)) := by
          rw [g1.cell _ hlen, cellsB_getElem, packL_toNat, hx]
        have hfz := g1.frozen _ hlen
        have hset := g1.set (bt / 8) (.int .u8 (bits BinOp.or IntKind.u8 (x : Int) (2 ^ (bt % 8) % 256)))
        have h7 : (2 : Nat) ^ (bt % 8) ≤ 2 ^ 7 := Nat.pow_le_pow_right (by omega) (by omega)
        have hor : x ||| 2 ^ (bt % 8) < 256 := Nat.or_lt_two_pow (n := 8) hx256 (by omega)
        have ebits : bits BinOp.or IntKind.u8 (x : Int) (2 ^ (bt % 8) % 256) = ((x ||| 2 ^ (bt % 8) : Nat) : Int) := by
          rw [two_pow_mod (by omega), u8_or_nat _ _ hx256 (by omega)]
        rw [ebits, cellsB_set _ _ _ (by omega) (by omega), Int.toNat_natCast, hx, packL_set _ _ _ hq8, ← orList_snoc, ← hx, ← ebits] at hset
        have hkd := g4.set (u := .int .u8 (bits BinOp.or IntKind.u8 (x : Int) (2 ^ (bt % 8) % 256))) hcx
        have hbx' : Boxed (W.setCell ⟨G, bt / 8, none⟩ (.int .u8 (bits BinOp.or IntKind.u8 (x : Int) (2 ^ (bt % 8) % 256)))) Bx 34 (.slice (some ⟨G, 0, none⟩) q q) := (Below.heap_setCell _ _ _ _ (by show Bx ≠ G; omega)).trans g2
        have hbw' := g3.setCell (p := ⟨G, bt / 8, none⟩) hwG (.int .u8 (bits BinOp.or IntKind.u8 (x : Int) (2 ^ (bt % 8) % 256)))
        have c1 := g2.cell
        have i2 : (bt : Int) / 8 < q := by omega
        have i3 : (0 : Int) ≤ (bt : Int) / 8 := by omega
        have i4 : (0 : Int) ≤ (bt : Int) % 8 := by omega
        have i5 : (bt : Int) % 8 ≤ 7 := by omega
        have Hset := Lib.hid hset
        have Hkd := Lib.hid hkd
        have Hbx' := Lib.hid hbx'
        have Hbw' := Lib.hid hbw'
        clear hset hkd hbx' hbw' ebits hx g1 g4 g3
        dsimp only
        gi_wp2
        refine region_last_lit r rfl (by kernel_rfl) (by kernel_rfl) (by kernel_rfl) (by kernel_rfl) ?_
        simp only [List.dropLast, List.drop, List.length, Nat.add_one_sub_one]
        repeat (gi_big_quiet_step (fail))
        refine wpQuietIn_nil ?_
        rintro _ ⟨nq, rfl⟩
        gi_wp2
        refine ⟨?_, ⟨?_, ?_, ?_⟩, ?_, Hbx'.out, below_drewN Hbw'.out nq, Hkd.out⟩
        · exact (KeepsOthers.setCell (W.drewN nq) _ _).from _ |> fun h => ⟨h.size, h.same⟩
        · exact Below.heap_setCell (W.drewN nq) _ _ _ (by show H + 1 ≠ G; omega)
        · exact Below.heap_setCell (W.drewN nq) _ _ _ (by show H ≠ G; omega)
        · exact Below.heap_setCell (W.drewN nq) _ _ _ (by show H + 1 + 1 ≠ G; omega)
        · rw [vals_snoc]; exact Hset.out
      case done =>
        rintro D xs W hD hS ⟨g1, g2, g3, g4⟩ hK
        have hm1 : Marks w.heap.size ds W := hm0.keeps fun D hD hk => g4 D (Array.getElem?_eq_some_iff.1 hk).1 hk
        have hm2 := hm1.cons hm0 (Nat.le_refl _) hD (by have := hB0.size; omega) hK
        rw [hS, Hf.out, ← Hsucc.out] at g1
        have G1 := Lib.hid g1
        have G2 := Lib.hid g2
        have G3 := Lib.hid g3
        have Hm2 := Lib.hid hm2
        clear g1 g2 g3 g4 hm1 hm2 hK hS hrow0 hbx0 hB0 hm0
        gi_wp2
        refine ⟨⟨k + 1, _, _, _, _, _, _, _, _, _, _, ⟨by omega, G1.out, G2.out, G3.out, Hm2.out⟩, rfl⟩, ?_⟩
        simp [intOf]; omega
      case stop =>
        rintro D c pre W _ _ h _
        exact h.elim
    · obtain rfl : k = l.length := by omega
      rw [List.take_length] at hrow
      have hcv := Row.conv (P := Try.prog) (cap := q) (n := q) hrow (by simp) Try.underlying34 Try.underlying5 Try.underlying9
      have c1 := hbx.cell
      have Hmarks := Lib.hid hmarks
      have Hbr := Lib.hid hbr
      clear hmarks hrow hbr
      gi_wp2
      refine leaves_marks (B := w.heap.size) (Z := fun W => Below w.heap.size w W) (fun W D hz hB hD => hz.trans (belowK_b (w := w) (Nat.le_refl _) W D _ _ hB hD rfl rfl)) (fun W hz => ?_) ds wr Hmarks.out Hbr.out
      exact ⟨.string (bs (packL (onB l n B) q)), by simp [results, Try.results19, go_sem], rfl, hz⟩
end Go.Proofs.Ytpoeginnoocenaa
