/-
  No cell of these rows narrows 'for every input' (looked for: loops, veiled, ifaces, maps, wideKeys, modest, calm, conditions, laid).
  DERIVED. THE GIVEN ROWS OF THIS SEAT. 3 by the template 'for every input the law returns true; each argument reads behind the call as it read before'; 0 by the template 'total and deterministic' (their statements: YtmplabhofhllmaaTotals.lean).
  GIVEN WITH THE SEED: the statements are not yours to turn. If you find one false, say at which input.
  Laid BY PROGRAM, IN A SANDBOX (cutbox-rows.mjs): the forced cells as the released guide's own fill.sh prints them over the translation 4e12372d3fc0f5c9… (all of the seat's roots in one cut). By AI agents, Wed Nov 11 2026. No macro, syntax, notation, axiom, sorry.
-/
import Derived.Test.YtmplabhofhllmaaChecked
import GoSem.Claim
import GoSem.ClaimJoined
import GoSem.ClaimMapViews
import Derived.JoinedTies
import Derived.KernelRfl
namespace Go.Proofs.Ytmplabhofhllmaa
/- THE CELL 'sum', in the pinned program and in every row, IS THE sha256 OF THE DUMP (.gsa) THAT YtmplabhofhllmaaProg.lean LOADS. Nothing in Lean hashes anything: it is a label: what it is worth is what the hold of that sum in a sandbox is worth. -/
noncomputable def Try.pinned : Pinned := { name := "ytmplabhofhllmaa", sum := "4e12372d3fc0f5c96cddcae90ecf17bddbd35c78414de575f8d7a72f54f8be95", checked := Try.checked }
namespace Rows
def none {H : Type} : Left H := { results := [], args := [] }

/-- 'annalistlaw27.ModelPlay': WHATEVER THE INPUT: true; the input reads as it did. -/
def modelPlaySpec : ChangeSpec := { name := "modelPlay", fn := fun _ => fun
  | [d] => { results := [.lit (.bool true)], args := [d] }
  | _ => none }
def modelPlayRow : OpenClaim := { program := "ytmplabhofhllmaa", sum := "4e12372d3fc0f5c96cddcae90ecf17bddbd35c78414de575f8d7a72f54f8be95", func := "annalist/annalistlaw27.ModelPlay", spec := "modelPlay", inPlace := ["math.Float64bits"], apart := false }
def ModelPlaySaid : Prop := modelPlayRow.holds Try.pinned (OpenSpec.ofChange modelPlaySpec)

/-- ITS FALSE NEIGHBOUR: 'it returns false'. Refute it at one input. -/
def modelPlayWrong : ChangeSpec := { name := "modelPlay", fn := fun _ => fun
  | [d] => { results := [.lit (.bool false)], args := [d] }
  | _ => none }
def ModelPlayWrongFalsely : Prop := modelPlayRow.holds Try.pinned (OpenSpec.ofChange modelPlayWrong)

/-- 'annalistlaw27.ModelNone': WHATEVER THE INPUT: true; the input reads as it did. -/
def modelNoneSpec : ChangeSpec := { name := "modelNone", fn := fun _ => fun
  | [d] => { results := [.lit (.bool true)], args := [d] }
  | _ => none }
def modelNoneRow : OpenClaim := { program := "ytmplabhofhllmaa", sum := "4e12372d3fc0f5c96cddcae90ecf17bddbd35c78414de575f8d7a72f54f8be95", func := "annalist/annalistlaw27.ModelNone", spec := "modelNone", inPlace := ["math.Float64bits"], apart := false }
def ModelNoneSaid : Prop := modelNoneRow.holds Try.pinned (OpenSpec.ofChange modelNoneSpec)

/-- ITS FALSE NEIGHBOUR: 'it returns false'. Refute it at one input. -/
def modelNoneWrong : ChangeSpec := { name := "modelNone", fn := fun _ => fun
  | [d] => { results := [.lit (.bool false)], args := [d] }
  | _ => none }
def ModelNoneWrongFalsely : Prop := modelNoneRow.holds Try.pinned (OpenSpec.ofChange modelNoneWrong)

/-- 'annalistlaw27.ModelPages': WHATEVER THE INPUT: true; the input reads as it did. -/
def modelPagesSpec : ChangeSpec := { name := "modelPages", fn := fun _ => fun
  | [d1, d2] => { results := [.lit (.bool true)], args := [d1, d2] }
  | _ => none }
def modelPagesRow : OpenClaim := { program := "ytmplabhofhllmaa", sum := "4e12372d3fc0f5c96cddcae90ecf17bddbd35c78414de575f8d7a72f54f8be95", func := "annalist/annalistlaw27.ModelPages", spec := "modelPages", inPlace := ["math.Float64bits"], apart := false }
def ModelPagesSaid : Prop := modelPagesRow.holds Try.pinned (OpenSpec.ofChange modelPagesSpec)

/-- ITS FALSE NEIGHBOUR: 'it returns false'. Refute it at one input. -/
def modelPagesWrong : ChangeSpec := { name := "modelPages", fn := fun _ => fun
  | [d1, d2] => { results := [.lit (.bool false)], args := [d1, d2] }
  | _ => none }
def ModelPagesWrongFalsely : Prop := modelPagesRow.holds Try.pinned (OpenSpec.ofChange modelPagesWrong)

/- THE SECOND FORM. 'bulk': how many values and letters a reading holds, each counted each time it is reached (what is shared counts as often as it is met; a slice's spare places count too). A statement '..UptoSaid' is the law's where the arguments, and the package variables that the reading takes, are together of bulk at most 1048576: NARROWER than '..Said'. Prove '..Said' where nothing that the law and all that it calls make is longer than what came in: it says more and counts as full. Else prove '..UptoSaid'. A law counts once. -/
mutual
def uptoBulk {H : Type} : DataW H → Nat
  | .lit (.string bytes) => bytes.length + 1
  | .lit _ => 1
  | .nil => 1
  | .ptr d => uptoBulk d + 1
  | .slice elems spare => uptoBulkAll elems + uptoBulkAll spare + 1
  | .agg parts => uptoBulkAll parts + 1
  | .iface _ d => uptoBulk d + 1
  | .map entries => uptoBulkEntries entries + 1
  | .held _ => 1
def uptoBulkAll {H : Type} : List (DataW H) → Nat
  | [] => 0
  | d :: r => uptoBulk d + uptoBulkAll r
def uptoBulkEntries {H : Type} : List (Lit × DataW H) → Nat
  | [] => 0
  | x :: r => uptoBulkEntry x + uptoBulkEntries r
def uptoBulkEntry {H : Type} : Lit × DataW H → Nat
  | (.string bytes, d) => bytes.length + uptoBulk d + 1
  | (_, d) => uptoBulk d + 1
 end
def uptoSmall : (H : Type) → List (DataW H) → Bool := fun _ ds => decide (uptoBulkAll ds ≤ 1048576)
def OpenSpec.upto (s : _root_.Go.ChangeSpec) : _root_.Go.OpenSpec := { _root_.Go.OpenSpec.ofChange s with cond := some uptoSmall }

/-- 'annalistlaw27.ModelPlay', WHERE WHAT IT READS IS OF BULK AT MOST 1048576: true; the input reads as it did. -/
def modelPlayUptoRow : OpenClaim := { program := "ytmplabhofhllmaa", sum := "4e12372d3fc0f5c96cddcae90ecf17bddbd35c78414de575f8d7a72f54f8be95", func := "annalist/annalistlaw27.ModelPlay", spec := "modelPlay", inPlace := ["math.Float64bits"], apart := false, narrowed := true }
def ModelPlayUptoSaid : Prop := modelPlayUptoRow.holds Try.pinned (OpenSpec.upto modelPlaySpec)

/-- 'annalistlaw27.ModelNone', WHERE WHAT IT READS IS OF BULK AT MOST 1048576: true; the input reads as it did. -/
def modelNoneUptoRow : OpenClaim := { program := "ytmplabhofhllmaa", sum := "4e12372d3fc0f5c96cddcae90ecf17bddbd35c78414de575f8d7a72f54f8be95", func := "annalist/annalistlaw27.ModelNone", spec := "modelNone", inPlace := ["math.Float64bits"], apart := false, narrowed := true }
def ModelNoneUptoSaid : Prop := modelNoneUptoRow.holds Try.pinned (OpenSpec.upto modelNoneSpec)

/-- 'annalistlaw27.ModelPages', WHERE WHAT IT READS IS OF BULK AT MOST 1048576: true; the input reads as it did. -/
def modelPagesUptoRow : OpenClaim := { program := "ytmplabhofhllmaa", sum := "4e12372d3fc0f5c96cddcae90ecf17bddbd35c78414de575f8d7a72f54f8be95", func := "annalist/annalistlaw27.ModelPages", spec := "modelPages", inPlace := ["math.Float64bits"], apart := false, narrowed := true }
def ModelPagesUptoSaid : Prop := modelPagesUptoRow.holds Try.pinned (OpenSpec.upto modelPagesSpec)

end Rows
end Go.Proofs.Ytmplabhofhllmaa
