/-
  No cell of these rows narrows 'for every input' (looked for: loops, veiled, ifaces, maps, wideKeys, modest, calm, conditions, laid).
  DERIVED. THE GIVEN ROWS OF THIS SEAT. 11 by the template 'for every input the law returns true; each argument reads behind the call as it read before'; 0 by the template 'total and deterministic' (their statements: YtiojapjidgjaoaaTotals.lean).
  GIVEN WITH THE SEED: the statements are not yours to turn. If you find one false, say at which input.
  Laid BY PROGRAM, IN A SANDBOX (cutbox-rows.mjs): the forced cells as the released guide's own fill.sh prints them over the translation 2cab088456558e4f… (all of the seat's roots in one cut). By AI agents, Wed Nov 11 2026. No macro, syntax, notation, axiom, sorry.
-/
import Derived.Test.YtiojapjidgjaoaaChecked
import GoSem.Claim
import GoSem.ClaimJoined
import GoSem.ClaimMapViews
import Derived.JoinedTies
import Derived.KernelRfl
namespace Go.Proofs.Ytiojapjidgjaoaa
/- THE CELL 'sum', in the pinned program and in every row, IS THE sha256 OF THE DUMP (.gsa) THAT YtiojapjidgjaoaaProg.lean LOADS. Nothing in Lean hashes anything: it is a label: what it is worth is what the hold of that sum in a sandbox is worth. -/
noncomputable def Try.pinned : Pinned := { name := "ytiojapjidgjaoaa", sum := "2cab088456558e4f239d381c18b63790b0e831f14415defda75ee6fa43ed86ed", checked := Try.checked }
namespace Rows
def none {H : Type} : Left H := { results := [], args := [] }

/-- 'annalistlaw07.EventsTell': WHATEVER THE INPUT: true; the input reads as it did. -/
def eventsTellSpec : ChangeSpec := { name := "eventsTell", fn := fun _ => fun
  | [d1, d2] => { results := [.lit (.bool true)], args := [d1, d2] }
  | _ => none }
def eventsTellRow : OpenClaim := { program := "ytiojapjidgjaoaa", sum := "2cab088456558e4f239d381c18b63790b0e831f14415defda75ee6fa43ed86ed", func := "annalist/annalistlaw07.EventsTell", spec := "eventsTell", inPlace := ["math.Float64bits", "math.Float64frombits"], apart := false }
def EventsTellSaid : Prop := eventsTellRow.holds Try.pinned (OpenSpec.ofChange eventsTellSpec)

/-- ITS FALSE NEIGHBOUR: 'it returns false'. Refute it at one input. -/
def eventsTellWrong : ChangeSpec := { name := "eventsTell", fn := fun _ => fun
  | [d1, d2] => { results := [.lit (.bool false)], args := [d1, d2] }
  | _ => none }
def EventsTellWrongFalsely : Prop := eventsTellRow.holds Try.pinned (OpenSpec.ofChange eventsTellWrong)

/-- 'annalistlaw07.EventsWeight': WHATEVER THE INPUT: true; the input reads as it did. -/
def eventsWeightSpec : ChangeSpec := { name := "eventsWeight", fn := fun _ => fun
  | [d1, d2] => { results := [.lit (.bool true)], args := [d1, d2] }
  | _ => none }
def eventsWeightRow : OpenClaim := { program := "ytiojapjidgjaoaa", sum := "2cab088456558e4f239d381c18b63790b0e831f14415defda75ee6fa43ed86ed", func := "annalist/annalistlaw07.EventsWeight", spec := "eventsWeight", inPlace := ["math.Float64bits", "math.Float64frombits"], apart := false }
def EventsWeightSaid : Prop := eventsWeightRow.holds Try.pinned (OpenSpec.ofChange eventsWeightSpec)

/-- ITS FALSE NEIGHBOUR: 'it returns false'. Refute it at one input. -/
def eventsWeightWrong : ChangeSpec := { name := "eventsWeight", fn := fun _ => fun
  | [d1, d2] => { results := [.lit (.bool false)], args := [d1, d2] }
  | _ => none }
def EventsWeightWrongFalsely : Prop := eventsWeightRow.holds Try.pinned (OpenSpec.ofChange eventsWeightWrong)

/-- 'annalistlaw07.EventsAll': WHATEVER THE INPUT: true; the input reads as it did. -/
def eventsAllSpec : ChangeSpec := { name := "eventsAll", fn := fun _ => fun
  | [d1, d2] => { results := [.lit (.bool true)], args := [d1, d2] }
  | _ => none }
def eventsAllRow : OpenClaim := { program := "ytiojapjidgjaoaa", sum := "2cab088456558e4f239d381c18b63790b0e831f14415defda75ee6fa43ed86ed", func := "annalist/annalistlaw07.EventsAll", spec := "eventsAll", inPlace := ["math.Float64bits", "math.Float64frombits"], unfollowed := true, recurses := true, apart := false }
def EventsAllSaid : Prop := eventsAllRow.holds Try.pinned (OpenSpec.ofChange eventsAllSpec)

/-- ITS FALSE NEIGHBOUR: 'it returns false'. Refute it at one input. -/
def eventsAllWrong : ChangeSpec := { name := "eventsAll", fn := fun _ => fun
  | [d1, d2] => { results := [.lit (.bool false)], args := [d1, d2] }
  | _ => none }
def EventsAllWrongFalsely : Prop := eventsAllRow.holds Try.pinned (OpenSpec.ofChange eventsAllWrong)

/-- 'annalistlaw07.EventsRead': WHATEVER THE INPUT: true; the input reads as it did. -/
def eventsReadSpec : ChangeSpec := { name := "eventsRead", fn := fun _ => fun
  | [d] => { results := [.lit (.bool true)], args := [d] }
  | _ => none }
def eventsReadRow : OpenClaim := { program := "ytiojapjidgjaoaa", sum := "2cab088456558e4f239d381c18b63790b0e831f14415defda75ee6fa43ed86ed", func := "annalist/annalistlaw07.EventsRead", spec := "eventsRead", inPlace := ["math.Float64bits", "math.Float64frombits"], apart := false }
def EventsReadSaid : Prop := eventsReadRow.holds Try.pinned (OpenSpec.ofChange eventsReadSpec)

/-- ITS FALSE NEIGHBOUR: 'it returns false'. Refute it at one input. -/
def eventsReadWrong : ChangeSpec := { name := "eventsRead", fn := fun _ => fun
  | [d] => { results := [.lit (.bool false)], args := [d] }
  | _ => none }
def EventsReadWrongFalsely : Prop := eventsReadRow.holds Try.pinned (OpenSpec.ofChange eventsReadWrong)

/-- 'annalistlaw07.EventsBack': WHATEVER THE INPUT: true; the input reads as it did. -/
def eventsBackSpec : ChangeSpec := { name := "eventsBack", fn := fun _ => fun
  | [d1, d2, d3] => { results := [.lit (.bool true)], args := [d1, d2, d3] }
  | _ => none }
def eventsBackRow : OpenClaim := { program := "ytiojapjidgjaoaa", sum := "2cab088456558e4f239d381c18b63790b0e831f14415defda75ee6fa43ed86ed", func := "annalist/annalistlaw07.EventsBack", spec := "eventsBack", inPlace := ["math.Float64bits", "math.Float64frombits"], apart := false }
def EventsBackSaid : Prop := eventsBackRow.holds Try.pinned (OpenSpec.ofChange eventsBackSpec)

/-- ITS FALSE NEIGHBOUR: 'it returns false'. Refute it at one input. -/
def eventsBackWrong : ChangeSpec := { name := "eventsBack", fn := fun _ => fun
  | [d1, d2, d3] => { results := [.lit (.bool false)], args := [d1, d2, d3] }
  | _ => none }
def EventsBackWrongFalsely : Prop := eventsBackRow.holds Try.pinned (OpenSpec.ofChange eventsBackWrong)

/-- 'annalistlaw07.EventsForm': WHATEVER THE INPUT: true; the input reads as it did. -/
def eventsFormSpec : ChangeSpec := { name := "eventsForm", fn := fun _ => fun
  | [d] => { results := [.lit (.bool true)], args := [d] }
  | _ => none }
def eventsFormRow : OpenClaim := { program := "ytiojapjidgjaoaa", sum := "2cab088456558e4f239d381c18b63790b0e831f14415defda75ee6fa43ed86ed", func := "annalist/annalistlaw07.EventsForm", spec := "eventsForm", inPlace := ["math.Float64bits", "math.Float64frombits"], apart := false }
def EventsFormSaid : Prop := eventsFormRow.holds Try.pinned (OpenSpec.ofChange eventsFormSpec)

/-- ITS FALSE NEIGHBOUR: 'it returns false'. Refute it at one input. -/
def eventsFormWrong : ChangeSpec := { name := "eventsForm", fn := fun _ => fun
  | [d] => { results := [.lit (.bool false)], args := [d] }
  | _ => none }
def EventsFormWrongFalsely : Prop := eventsFormRow.holds Try.pinned (OpenSpec.ofChange eventsFormWrong)

/-- 'annalistlaw09.BatchesTell': WHATEVER THE INPUT: true; the input reads as it did. -/
def batchesTellSpec : ChangeSpec := { name := "batchesTell", fn := fun _ => fun
  | [d1, d2] => { results := [.lit (.bool true)], args := [d1, d2] }
  | _ => none }
def batchesTellRow : OpenClaim := { program := "ytiojapjidgjaoaa", sum := "2cab088456558e4f239d381c18b63790b0e831f14415defda75ee6fa43ed86ed", func := "annalist/annalistlaw09.BatchesTell", spec := "batchesTell", inPlace := ["math.Float64bits", "math.Float64frombits"], unfollowed := true, recurses := true, apart := false }
def BatchesTellSaid : Prop := batchesTellRow.holds Try.pinned (OpenSpec.ofChange batchesTellSpec)

/-- ITS FALSE NEIGHBOUR: 'it returns false'. Refute it at one input. -/
def batchesTellWrong : ChangeSpec := { name := "batchesTell", fn := fun _ => fun
  | [d1, d2] => { results := [.lit (.bool false)], args := [d1, d2] }
  | _ => none }
def BatchesTellWrongFalsely : Prop := batchesTellRow.holds Try.pinned (OpenSpec.ofChange batchesTellWrong)

/-- 'annalistlaw09.BatchesGet': WHATEVER THE INPUT: true; the input reads as it did. -/
def batchesGetSpec : ChangeSpec := { name := "batchesGet", fn := fun _ => fun
  | [d] => { results := [.lit (.bool true)], args := [d] }
  | _ => none }
def batchesGetRow : OpenClaim := { program := "ytiojapjidgjaoaa", sum := "2cab088456558e4f239d381c18b63790b0e831f14415defda75ee6fa43ed86ed", func := "annalist/annalistlaw09.BatchesGet", spec := "batchesGet", inPlace := ["math.Float64bits", "math.Float64frombits"], unfollowed := true, recurses := true, apart := false }
def BatchesGetSaid : Prop := batchesGetRow.holds Try.pinned (OpenSpec.ofChange batchesGetSpec)

/-- ITS FALSE NEIGHBOUR: 'it returns false'. Refute it at one input. -/
def batchesGetWrong : ChangeSpec := { name := "batchesGet", fn := fun _ => fun
  | [d] => { results := [.lit (.bool false)], args := [d] }
  | _ => none }
def BatchesGetWrongFalsely : Prop := batchesGetRow.holds Try.pinned (OpenSpec.ofChange batchesGetWrong)

/-- 'annalistlaw09.BatchesBack': WHATEVER THE INPUT: true; the input reads as it did. -/
def batchesBackSpec : ChangeSpec := { name := "batchesBack", fn := fun _ => fun
  | [d1, d2, d3] => { results := [.lit (.bool true)], args := [d1, d2, d3] }
  | _ => none }
def batchesBackRow : OpenClaim := { program := "ytiojapjidgjaoaa", sum := "2cab088456558e4f239d381c18b63790b0e831f14415defda75ee6fa43ed86ed", func := "annalist/annalistlaw09.BatchesBack", spec := "batchesBack", inPlace := ["math.Float64bits", "math.Float64frombits"], unfollowed := true, recurses := true, apart := false }
def BatchesBackSaid : Prop := batchesBackRow.holds Try.pinned (OpenSpec.ofChange batchesBackSpec)

/-- ITS FALSE NEIGHBOUR: 'it returns false'. Refute it at one input. -/
def batchesBackWrong : ChangeSpec := { name := "batchesBack", fn := fun _ => fun
  | [d1, d2, d3] => { results := [.lit (.bool false)], args := [d1, d2, d3] }
  | _ => none }
def BatchesBackWrongFalsely : Prop := batchesBackRow.holds Try.pinned (OpenSpec.ofChange batchesBackWrong)

/-- 'annalistlaw09.BatchesForm': WHATEVER THE INPUT: true; the input reads as it did. -/
def batchesFormSpec : ChangeSpec := { name := "batchesForm", fn := fun _ => fun
  | [d] => { results := [.lit (.bool true)], args := [d] }
  | _ => none }
def batchesFormRow : OpenClaim := { program := "ytiojapjidgjaoaa", sum := "2cab088456558e4f239d381c18b63790b0e831f14415defda75ee6fa43ed86ed", func := "annalist/annalistlaw09.BatchesForm", spec := "batchesForm", inPlace := ["math.Float64bits", "math.Float64frombits"], unfollowed := true, recurses := true, apart := false }
def BatchesFormSaid : Prop := batchesFormRow.holds Try.pinned (OpenSpec.ofChange batchesFormSpec)

/-- ITS FALSE NEIGHBOUR: 'it returns false'. Refute it at one input. -/
def batchesFormWrong : ChangeSpec := { name := "batchesForm", fn := fun _ => fun
  | [d] => { results := [.lit (.bool false)], args := [d] }
  | _ => none }
def BatchesFormWrongFalsely : Prop := batchesFormRow.holds Try.pinned (OpenSpec.ofChange batchesFormWrong)

/-- 'annalistlaw09.BatchesFirst': WHATEVER THE INPUT: true; the input reads as it did. -/
def batchesFirstSpec : ChangeSpec := { name := "batchesFirst", fn := fun _ => fun
  | [d1, d2] => { results := [.lit (.bool true)], args := [d1, d2] }
  | _ => none }
def batchesFirstRow : OpenClaim := { program := "ytiojapjidgjaoaa", sum := "2cab088456558e4f239d381c18b63790b0e831f14415defda75ee6fa43ed86ed", func := "annalist/annalistlaw09.BatchesFirst", spec := "batchesFirst", inPlace := ["math.Float64bits", "math.Float64frombits"], unfollowed := true, recurses := true, apart := false }
def BatchesFirstSaid : Prop := batchesFirstRow.holds Try.pinned (OpenSpec.ofChange batchesFirstSpec)

/-- ITS FALSE NEIGHBOUR: 'it returns false'. Refute it at one input. -/
def batchesFirstWrong : ChangeSpec := { name := "batchesFirst", fn := fun _ => fun
  | [d1, d2] => { results := [.lit (.bool false)], args := [d1, d2] }
  | _ => none }
def BatchesFirstWrongFalsely : Prop := batchesFirstRow.holds Try.pinned (OpenSpec.ofChange batchesFirstWrong)

/- THE SECOND FORM. 'bulk': how many values and letters a reading holds, each counted each time it is reached (what is shared counts as often as it is met; a slice's spare places count too). A statement '..UptoSaid' is the law's where the arguments, and the package variables that the reading takes, are together of bulk at most 1048576: NARROWER than '..Said'. Prove '..Said' where nothing that the law and all that it calls make is longer than what came in: it says more and counts as full. Else prove '..UptoSaid'. A law counts once. -/
mutual
def uptoBulk {H : Type} : DataW H → Nat
  | .lit (.string bytes) => bytes.length + 1
  | .lit _ => 1
  | .nil => 1
  | .ptr d => uptoBulk d + 1
  | .slice elems spare => uptoBulkAll elems + uptoBulkAll spare + 1
  | .agg parts => uptoBulkAll parts + 1
  | .iface _ d => uptoBulk d + 1
  | .map entries => uptoBulkEntries entries + 1
  | .held _ => 1
def uptoBulkAll {H : Type} : List (DataW H) → Nat
  | [] => 0
  | d :: r => uptoBulk d + uptoBulkAll r
def uptoBulkEntries {H : Type} : List (Lit × DataW H) → Nat
  | [] => 0
  | x :: r => uptoBulkEntry x + uptoBulkEntries r
def uptoBulkEntry {H : Type} : Lit × DataW H → Nat
  | (.string bytes, d) => bytes.length + uptoBulk d + 1
  | (_, d) => uptoBulk d + 1
 end
def uptoSmall : (H : Type) → List (DataW H) → Bool := fun _ ds => decide (uptoBulkAll ds ≤ 1048576)
def OpenSpec.upto (s : _root_.Go.ChangeSpec) : _root_.Go.OpenSpec := { _root_.Go.OpenSpec.ofChange s with cond := some uptoSmall }

/-- 'annalistlaw07.EventsTell', WHERE WHAT IT READS IS OF BULK AT MOST 1048576: true; the input reads as it did. -/
def eventsTellUptoRow : OpenClaim := { program := "ytiojapjidgjaoaa", sum := "2cab088456558e4f239d381c18b63790b0e831f14415defda75ee6fa43ed86ed", func := "annalist/annalistlaw07.EventsTell", spec := "eventsTell", inPlace := ["math.Float64bits", "math.Float64frombits"], apart := false, narrowed := true }
def EventsTellUptoSaid : Prop := eventsTellUptoRow.holds Try.pinned (OpenSpec.upto eventsTellSpec)

/-- 'annalistlaw07.EventsWeight', WHERE WHAT IT READS IS OF BULK AT MOST 1048576: true; the input reads as it did. -/
def eventsWeightUptoRow : OpenClaim := { program := "ytiojapjidgjaoaa", sum := "2cab088456558e4f239d381c18b63790b0e831f14415defda75ee6fa43ed86ed", func := "annalist/annalistlaw07.EventsWeight", spec := "eventsWeight", inPlace := ["math.Float64bits", "math.Float64frombits"], apart := false, narrowed := true }
def EventsWeightUptoSaid : Prop := eventsWeightUptoRow.holds Try.pinned (OpenSpec.upto eventsWeightSpec)

/-- 'annalistlaw07.EventsAll', WHERE WHAT IT READS IS OF BULK AT MOST 1048576: true; the input reads as it did. -/
def eventsAllUptoRow : OpenClaim := { program := "ytiojapjidgjaoaa", sum := "2cab088456558e4f239d381c18b63790b0e831f14415defda75ee6fa43ed86ed", func := "annalist/annalistlaw07.EventsAll", spec := "eventsAll", inPlace := ["math.Float64bits", "math.Float64frombits"], unfollowed := true, recurses := true, apart := false, narrowed := true }
def EventsAllUptoSaid : Prop := eventsAllUptoRow.holds Try.pinned (OpenSpec.upto eventsAllSpec)

/-- 'annalistlaw07.EventsRead', WHERE WHAT IT READS IS OF BULK AT MOST 1048576: true; the input reads as it did. -/
def eventsReadUptoRow : OpenClaim := { program := "ytiojapjidgjaoaa", sum := "2cab088456558e4f239d381c18b63790b0e831f14415defda75ee6fa43ed86ed", func := "annalist/annalistlaw07.EventsRead", spec := "eventsRead", inPlace := ["math.Float64bits", "math.Float64frombits"], apart := false, narrowed := true }
def EventsReadUptoSaid : Prop := eventsReadUptoRow.holds Try.pinned (OpenSpec.upto eventsReadSpec)

/-- 'annalistlaw07.EventsBack', WHERE WHAT IT READS IS OF BULK AT MOST 1048576: true; the input reads as it did. -/
def eventsBackUptoRow : OpenClaim := { program := "ytiojapjidgjaoaa", sum := "2cab088456558e4f239d381c18b63790b0e831f14415defda75ee6fa43ed86ed", func := "annalist/annalistlaw07.EventsBack", spec := "eventsBack", inPlace := ["math.Float64bits", "math.Float64frombits"], apart := false, narrowed := true }
def EventsBackUptoSaid : Prop := eventsBackUptoRow.holds Try.pinned (OpenSpec.upto eventsBackSpec)

/-- 'annalistlaw07.EventsForm', WHERE WHAT IT READS IS OF BULK AT MOST 1048576: true; the input reads as it did. -/
def eventsFormUptoRow : OpenClaim := { program := "ytiojapjidgjaoaa", sum := "2cab088456558e4f239d381c18b63790b0e831f14415defda75ee6fa43ed86ed", func := "annalist/annalistlaw07.EventsForm", spec := "eventsForm", inPlace := ["math.Float64bits", "math.Float64frombits"], apart := false, narrowed := true }
def EventsFormUptoSaid : Prop := eventsFormUptoRow.holds Try.pinned (OpenSpec.upto eventsFormSpec)

/-- 'annalistlaw09.BatchesTell', WHERE WHAT IT READS IS OF BULK AT MOST 1048576: true; the input reads as it did. -/
def batchesTellUptoRow : OpenClaim := { program := "ytiojapjidgjaoaa", sum := "2cab088456558e4f239d381c18b63790b0e831f14415defda75ee6fa43ed86ed", func := "annalist/annalistlaw09.BatchesTell", spec := "batchesTell", inPlace := ["math.Float64bits", "math.Float64frombits"], unfollowed := true, recurses := true, apart := false, narrowed := true }
def BatchesTellUptoSaid : Prop := batchesTellUptoRow.holds Try.pinned (OpenSpec.upto batchesTellSpec)

/-- 'annalistlaw09.BatchesGet', WHERE WHAT IT READS IS OF BULK AT MOST 1048576: true; the input reads as it did. -/
def batchesGetUptoRow : OpenClaim := { program := "ytiojapjidgjaoaa", sum := "2cab088456558e4f239d381c18b63790b0e831f14415defda75ee6fa43ed86ed", func := "annalist/annalistlaw09.BatchesGet", spec := "batchesGet", inPlace := ["math.Float64bits", "math.Float64frombits"], unfollowed := true, recurses := true, apart := false, narrowed := true }
def BatchesGetUptoSaid : Prop := batchesGetUptoRow.holds Try.pinned (OpenSpec.upto batchesGetSpec)

/-- 'annalistlaw09.BatchesBack', WHERE WHAT IT READS IS OF BULK AT MOST 1048576: true; the input reads as it did. -/
def batchesBackUptoRow : OpenClaim := { program := "ytiojapjidgjaoaa", sum := "2cab088456558e4f239d381c18b63790b0e831f14415defda75ee6fa43ed86ed", func := "annalist/annalistlaw09.BatchesBack", spec := "batchesBack", inPlace := ["math.Float64bits", "math.Float64frombits"], unfollowed := true, recurses := true, apart := false, narrowed := true }
def BatchesBackUptoSaid : Prop := batchesBackUptoRow.holds Try.pinned (OpenSpec.upto batchesBackSpec)

/-- 'annalistlaw09.BatchesForm', WHERE WHAT IT READS IS OF BULK AT MOST 1048576: true; the input reads as it did. -/
def batchesFormUptoRow : OpenClaim := { program := "ytiojapjidgjaoaa", sum := "2cab088456558e4f239d381c18b63790b0e831f14415defda75ee6fa43ed86ed", func := "annalist/annalistlaw09.BatchesForm", spec := "batchesForm", inPlace := ["math.Float64bits", "math.Float64frombits"], unfollowed := true, recurses := true, apart := false, narrowed := true }
def BatchesFormUptoSaid : Prop := batchesFormUptoRow.holds Try.pinned (OpenSpec.upto batchesFormSpec)

/-- 'annalistlaw09.BatchesFirst', WHERE WHAT IT READS IS OF BULK AT MOST 1048576: true; the input reads as it did. -/
def batchesFirstUptoRow : OpenClaim := { program := "ytiojapjidgjaoaa", sum := "2cab088456558e4f239d381c18b63790b0e831f14415defda75ee6fa43ed86ed", func := "annalist/annalistlaw09.BatchesFirst", spec := "batchesFirst", inPlace := ["math.Float64bits", "math.Float64frombits"], unfollowed := true, recurses := true, apart := false, narrowed := true }
def BatchesFirstUptoSaid : Prop := batchesFirstUptoRow.holds Try.pinned (OpenSpec.upto batchesFirstSpec)

end Rows
end Go.Proofs.Ytiojapjidgjaoaa
