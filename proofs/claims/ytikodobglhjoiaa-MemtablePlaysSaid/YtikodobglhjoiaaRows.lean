/-
  No cell of these rows narrows 'for every input' (looked for: loops, veiled, ifaces, maps, wideKeys, modest, calm, conditions, laid).
  DERIVED. THE GIVEN ROWS OF THIS SEAT. 11 by the template 'for every input the law returns true; each argument reads behind the call as it read before'; 0 by the template 'total and deterministic' (their statements: YtikodobglhjoiaaTotals.lean).
  GIVEN WITH THE SEED: the statements are not yours to turn. If you find one false, say at which input.
  Laid BY PROGRAM, IN A SANDBOX (cutbox-rows.mjs): the forced cells as the released guide's own fill.sh prints them over the translation e7c3ed94bb0bac98… (all of the seat's roots in one cut). By AI agents, Wed Nov 11 2026. No macro, syntax, notation, axiom, sorry.
-/
import Derived.Test.YtikodobglhjoiaaChecked
import GoSem.Claim
import GoSem.ClaimJoined
import GoSem.ClaimMapViews
import Derived.JoinedTies
import Derived.KernelRfl
namespace Go.Proofs.Ytikodobglhjoiaa
/- THE CELL 'sum', in the pinned program and in every row, IS THE sha256 OF THE DUMP (.gsa) THAT YtikodobglhjoiaaProg.lean LOADS. Nothing in Lean hashes anything: it is a label: what it is worth is what the hold of that sum in a sandbox is worth. -/
noncomputable def Try.pinned : Pinned := { name := "ytikodobglhjoiaa", sum := "e7c3ed94bb0bac98653b786c44a5382a17e3855e832c62957d50e2027f34c7a2", checked := Try.checked }
namespace Rows
def none {H : Type} : Left H := { results := [], args := [] }

/-- 'annalistlaw13.EntriesAsk': WHATEVER THE INPUT: true; the input reads as it did. -/
def entriesAskSpec : ChangeSpec := { name := "entriesAsk", fn := fun _ => fun
  | [d1, d2, d3] => { results := [.lit (.bool true)], args := [d1, d2, d3] }
  | _ => none }
def entriesAskRow : OpenClaim := { program := "ytikodobglhjoiaa", sum := "e7c3ed94bb0bac98653b786c44a5382a17e3855e832c62957d50e2027f34c7a2", func := "annalist/annalistlaw13.EntriesAsk", spec := "entriesAsk", apart := false }
def EntriesAskSaid : Prop := entriesAskRow.holds Try.pinned (OpenSpec.ofChange entriesAskSpec)

/-- ITS FALSE NEIGHBOUR: 'it returns false'. Refute it at one input. -/
def entriesAskWrong : ChangeSpec := { name := "entriesAsk", fn := fun _ => fun
  | [d1, d2, d3] => { results := [.lit (.bool false)], args := [d1, d2, d3] }
  | _ => none }
def EntriesAskWrongFalsely : Prop := entriesAskRow.holds Try.pinned (OpenSpec.ofChange entriesAskWrong)

/-- 'annalistlaw16.MemtableOrder': WHATEVER THE INPUT: true; the input reads as it did. -/
def memtableOrderSpec : ChangeSpec := { name := "memtableOrder", fn := fun _ => fun
  | [d1, d2] => { results := [.lit (.bool true)], args := [d1, d2] }
  | _ => none }
def memtableOrderRow : OpenClaim := { program := "ytikodobglhjoiaa", sum := "e7c3ed94bb0bac98653b786c44a5382a17e3855e832c62957d50e2027f34c7a2", func := "annalist/annalistlaw16.MemtableOrder", spec := "memtableOrder", apart := false }
def MemtableOrderSaid : Prop := memtableOrderRow.holds Try.pinned (OpenSpec.ofChange memtableOrderSpec)

/-- ITS FALSE NEIGHBOUR: 'it returns false'. Refute it at one input. -/
def memtableOrderWrong : ChangeSpec := { name := "memtableOrder", fn := fun _ => fun
  | [d1, d2] => { results := [.lit (.bool false)], args := [d1, d2] }
  | _ => none }
def MemtableOrderWrongFalsely : Prop := memtableOrderRow.holds Try.pinned (OpenSpec.ofChange memtableOrderWrong)

/-- 'annalistlaw13.EntriesTell': WHATEVER THE INPUT: true; the input reads as it did. -/
def entriesTellSpec : ChangeSpec := { name := "entriesTell", fn := fun _ => fun
  | [d1, d2, d3] => { results := [.lit (.bool true)], args := [d1, d2, d3] }
  | _ => none }
def entriesTellRow : OpenClaim := { program := "ytikodobglhjoiaa", sum := "e7c3ed94bb0bac98653b786c44a5382a17e3855e832c62957d50e2027f34c7a2", func := "annalist/annalistlaw13.EntriesTell", spec := "entriesTell", apart := false }
def EntriesTellSaid : Prop := entriesTellRow.holds Try.pinned (OpenSpec.ofChange entriesTellSpec)

/-- ITS FALSE NEIGHBOUR: 'it returns false'. Refute it at one input. -/
def entriesTellWrong : ChangeSpec := { name := "entriesTell", fn := fun _ => fun
  | [d1, d2, d3] => { results := [.lit (.bool false)], args := [d1, d2, d3] }
  | _ => none }
def EntriesTellWrongFalsely : Prop := entriesTellRow.holds Try.pinned (OpenSpec.ofChange entriesTellWrong)

/-- 'annalistlaw13.EntriesBack': WHATEVER THE INPUT: true; the input reads as it did. -/
def entriesBackSpec : ChangeSpec := { name := "entriesBack", fn := fun _ => fun
  | [d1, d2] => { results := [.lit (.bool true)], args := [d1, d2] }
  | _ => none }
def entriesBackRow : OpenClaim := { program := "ytikodobglhjoiaa", sum := "e7c3ed94bb0bac98653b786c44a5382a17e3855e832c62957d50e2027f34c7a2", func := "annalist/annalistlaw13.EntriesBack", spec := "entriesBack", apart := false }
def EntriesBackSaid : Prop := entriesBackRow.holds Try.pinned (OpenSpec.ofChange entriesBackSpec)

/-- ITS FALSE NEIGHBOUR: 'it returns false'. Refute it at one input. -/
def entriesBackWrong : ChangeSpec := { name := "entriesBack", fn := fun _ => fun
  | [d1, d2] => { results := [.lit (.bool false)], args := [d1, d2] }
  | _ => none }
def EntriesBackWrongFalsely : Prop := entriesBackRow.holds Try.pinned (OpenSpec.ofChange entriesBackWrong)

/-- 'annalistlaw13.EntriesForm': WHATEVER THE INPUT: true; the input reads as it did. -/
def entriesFormSpec : ChangeSpec := { name := "entriesForm", fn := fun _ => fun
  | [d1, d2] => { results := [.lit (.bool true)], args := [d1, d2] }
  | _ => none }
def entriesFormRow : OpenClaim := { program := "ytikodobglhjoiaa", sum := "e7c3ed94bb0bac98653b786c44a5382a17e3855e832c62957d50e2027f34c7a2", func := "annalist/annalistlaw13.EntriesForm", spec := "entriesForm", apart := false }
def EntriesFormSaid : Prop := entriesFormRow.holds Try.pinned (OpenSpec.ofChange entriesFormSpec)

/-- ITS FALSE NEIGHBOUR: 'it returns false'. Refute it at one input. -/
def entriesFormWrong : ChangeSpec := { name := "entriesForm", fn := fun _ => fun
  | [d1, d2] => { results := [.lit (.bool false)], args := [d1, d2] }
  | _ => none }
def EntriesFormWrongFalsely : Prop := entriesFormRow.holds Try.pinned (OpenSpec.ofChange entriesFormWrong)

/-- 'annalistlaw16.MemtablePlays': WHATEVER THE INPUT: true; the input reads as it did. -/
def memtablePlaysSpec : ChangeSpec := { name := "memtablePlays", fn := fun _ => fun
  | [d] => { results := [.lit (.bool true)], args := [d] }
  | _ => none }
def memtablePlaysRow : OpenClaim := { program := "ytikodobglhjoiaa", sum := "e7c3ed94bb0bac98653b786c44a5382a17e3855e832c62957d50e2027f34c7a2", func := "annalist/annalistlaw16.MemtablePlays", spec := "memtablePlays", apart := false }
def MemtablePlaysSaid : Prop := memtablePlaysRow.holds Try.pinned (OpenSpec.ofChange memtablePlaysSpec)

/-- ITS FALSE NEIGHBOUR: 'it returns false'. Refute it at one input. -/
def memtablePlaysWrong : ChangeSpec := { name := "memtablePlays", fn := fun _ => fun
  | [d] => { results := [.lit (.bool false)], args := [d] }
  | _ => none }
def MemtablePlaysWrongFalsely : Prop := memtablePlaysRow.holds Try.pinned (OpenSpec.ofChange memtablePlaysWrong)

/-- 'annalistlaw16.MemtableNone': WHATEVER THE INPUT: true; the input reads as it did. -/
def memtableNoneSpec : ChangeSpec := { name := "memtableNone", fn := fun _ => fun
  | [d] => { results := [.lit (.bool true)], args := [d] }
  | _ => none }
def memtableNoneRow : OpenClaim := { program := "ytikodobglhjoiaa", sum := "e7c3ed94bb0bac98653b786c44a5382a17e3855e832c62957d50e2027f34c7a2", func := "annalist/annalistlaw16.MemtableNone", spec := "memtableNone", apart := false }
def MemtableNoneSaid : Prop := memtableNoneRow.holds Try.pinned (OpenSpec.ofChange memtableNoneSpec)

/-- ITS FALSE NEIGHBOUR: 'it returns false'. Refute it at one input. -/
def memtableNoneWrong : ChangeSpec := { name := "memtableNone", fn := fun _ => fun
  | [d] => { results := [.lit (.bool false)], args := [d] }
  | _ => none }
def MemtableNoneWrongFalsely : Prop := memtableNoneRow.holds Try.pinned (OpenSpec.ofChange memtableNoneWrong)

/-- 'annalistlaw16.MemtableParts': WHATEVER THE INPUT: true; the input reads as it did. -/
def memtablePartsSpec : ChangeSpec := { name := "memtableParts", fn := fun _ => fun
  | [d1, d2, d3] => { results := [.lit (.bool true)], args := [d1, d2, d3] }
  | _ => none }
def memtablePartsRow : OpenClaim := { program := "ytikodobglhjoiaa", sum := "e7c3ed94bb0bac98653b786c44a5382a17e3855e832c62957d50e2027f34c7a2", func := "annalist/annalistlaw16.MemtableParts", spec := "memtableParts", apart := false }
def MemtablePartsSaid : Prop := memtablePartsRow.holds Try.pinned (OpenSpec.ofChange memtablePartsSpec)

/-- ITS FALSE NEIGHBOUR: 'it returns false'. Refute it at one input. -/
def memtablePartsWrong : ChangeSpec := { name := "memtableParts", fn := fun _ => fun
  | [d1, d2, d3] => { results := [.lit (.bool false)], args := [d1, d2, d3] }
  | _ => none }
def MemtablePartsWrongFalsely : Prop := memtablePartsRow.holds Try.pinned (OpenSpec.ofChange memtablePartsWrong)

/-- 'annalistlaw18.TablesTell': WHATEVER THE INPUT: true; the input reads as it did. -/
def tablesTellSpec : ChangeSpec := { name := "tablesTell", fn := fun _ => fun
  | [d1, d2, d3] => { results := [.lit (.bool true)], args := [d1, d2, d3] }
  | _ => none }
def tablesTellRow : OpenClaim := { program := "ytikodobglhjoiaa", sum := "e7c3ed94bb0bac98653b786c44a5382a17e3855e832c62957d50e2027f34c7a2", func := "annalist/annalistlaw18.TablesTell", spec := "tablesTell", apart := false }
def TablesTellSaid : Prop := tablesTellRow.holds Try.pinned (OpenSpec.ofChange tablesTellSpec)

/-- ITS FALSE NEIGHBOUR: 'it returns false'. Refute it at one input. -/
def tablesTellWrong : ChangeSpec := { name := "tablesTell", fn := fun _ => fun
  | [d1, d2, d3] => { results := [.lit (.bool false)], args := [d1, d2, d3] }
  | _ => none }
def TablesTellWrongFalsely : Prop := tablesTellRow.holds Try.pinned (OpenSpec.ofChange tablesTellWrong)

/-- 'annalistlaw18.TablesBack': WHATEVER THE INPUT: true; the input reads as it did. -/
def tablesBackSpec : ChangeSpec := { name := "tablesBack", fn := fun _ => fun
  | [d] => { results := [.lit (.bool true)], args := [d] }
  | _ => none }
def tablesBackRow : OpenClaim := { program := "ytikodobglhjoiaa", sum := "e7c3ed94bb0bac98653b786c44a5382a17e3855e832c62957d50e2027f34c7a2", func := "annalist/annalistlaw18.TablesBack", spec := "tablesBack", apart := false }
def TablesBackSaid : Prop := tablesBackRow.holds Try.pinned (OpenSpec.ofChange tablesBackSpec)

/-- ITS FALSE NEIGHBOUR: 'it returns false'. Refute it at one input. -/
def tablesBackWrong : ChangeSpec := { name := "tablesBack", fn := fun _ => fun
  | [d] => { results := [.lit (.bool false)], args := [d] }
  | _ => none }
def TablesBackWrongFalsely : Prop := tablesBackRow.holds Try.pinned (OpenSpec.ofChange tablesBackWrong)

/-- 'annalistlaw18.TablesSpoilt': WHATEVER THE INPUT: true; the input reads as it did. -/
def tablesSpoiltSpec : ChangeSpec := { name := "tablesSpoilt", fn := fun _ => fun
  | [d1, d2, d3] => { results := [.lit (.bool true)], args := [d1, d2, d3] }
  | _ => none }
def tablesSpoiltRow : OpenClaim := { program := "ytikodobglhjoiaa", sum := "e7c3ed94bb0bac98653b786c44a5382a17e3855e832c62957d50e2027f34c7a2", func := "annalist/annalistlaw18.TablesSpoilt", spec := "tablesSpoilt", apart := false }
def TablesSpoiltSaid : Prop := tablesSpoiltRow.holds Try.pinned (OpenSpec.ofChange tablesSpoiltSpec)

/-- ITS FALSE NEIGHBOUR: 'it returns false'. Refute it at one input. -/
def tablesSpoiltWrong : ChangeSpec := { name := "tablesSpoilt", fn := fun _ => fun
  | [d1, d2, d3] => { results := [.lit (.bool false)], args := [d1, d2, d3] }
  | _ => none }
def TablesSpoiltWrongFalsely : Prop := tablesSpoiltRow.holds Try.pinned (OpenSpec.ofChange tablesSpoiltWrong)

/- THE SECOND FORM. 'bulk': how many values and letters a reading holds, each counted each time it is reached (what is shared counts as often as it is met; a slice's spare places count too). A statement '..UptoSaid' is the law's where the arguments, and the package variables that the reading takes, are together of bulk at most 1048576: NARROWER than '..Said'. Prove '..Said' where nothing that the law and all that it calls make is longer than what came in: it says more and counts as full. Else prove '..UptoSaid'. A law counts once. -/
mutual
def uptoBulk {H : Type} : DataW H → Nat
  | .lit (.string bytes) => bytes.length + 1
  | .lit _ => 1
  | .nil => 1
  | .ptr d => uptoBulk d + 1
  | .slice elems spare => uptoBulkAll elems + uptoBulkAll spare + 1
  | .agg parts => uptoBulkAll parts + 1
  | .iface _ d => uptoBulk d + 1
  | .map entries => uptoBulkEntries entries + 1
  | .held _ => 1
def uptoBulkAll {H : Type} : List (DataW H) → Nat
  | [] => 0
  | d :: r => uptoBulk d + uptoBulkAll r
def uptoBulkEntries {H : Type} : List (Lit × DataW H) → Nat
  | [] => 0
  | x :: r => uptoBulkEntry x + uptoBulkEntries r
def uptoBulkEntry {H : Type} : Lit × DataW H → Nat
  | (.string bytes, d) => bytes.length + uptoBulk d + 1
  | (_, d) => uptoBulk d + 1
 end
def uptoSmall : (H : Type) → List (DataW H) → Bool := fun _ ds => decide (uptoBulkAll ds ≤ 1048576)
def OpenSpec.upto (s : _root_.Go.ChangeSpec) : _root_.Go.OpenSpec := { _root_.Go.OpenSpec.ofChange s with cond := some uptoSmall }

/-- 'annalistlaw13.EntriesAsk', WHERE WHAT IT READS IS OF BULK AT MOST 1048576: true; the input reads as it did. -/
def entriesAskUptoRow : OpenClaim := { program := "ytikodobglhjoiaa", sum := "e7c3ed94bb0bac98653b786c44a5382a17e3855e832c62957d50e2027f34c7a2", func := "annalist/annalistlaw13.EntriesAsk", spec := "entriesAsk", apart := false, narrowed := true }
def EntriesAskUptoSaid : Prop := entriesAskUptoRow.holds Try.pinned (OpenSpec.upto entriesAskSpec)

/-- 'annalistlaw16.MemtableOrder', WHERE WHAT IT READS IS OF BULK AT MOST 1048576: true; the input reads as it did. -/
def memtableOrderUptoRow : OpenClaim := { program := "ytikodobglhjoiaa", sum := "e7c3ed94bb0bac98653b786c44a5382a17e3855e832c62957d50e2027f34c7a2", func := "annalist/annalistlaw16.MemtableOrder", spec := "memtableOrder", apart := false, narrowed := true }
def MemtableOrderUptoSaid : Prop := memtableOrderUptoRow.holds Try.pinned (OpenSpec.upto memtableOrderSpec)

/-- 'annalistlaw13.EntriesTell', WHERE WHAT IT READS IS OF BULK AT MOST 1048576: true; the input reads as it did. -/
def entriesTellUptoRow : OpenClaim := { program := "ytikodobglhjoiaa", sum := "e7c3ed94bb0bac98653b786c44a5382a17e3855e832c62957d50e2027f34c7a2", func := "annalist/annalistlaw13.EntriesTell", spec := "entriesTell", apart := false, narrowed := true }
def EntriesTellUptoSaid : Prop := entriesTellUptoRow.holds Try.pinned (OpenSpec.upto entriesTellSpec)

/-- 'annalistlaw13.EntriesBack', WHERE WHAT IT READS IS OF BULK AT MOST 1048576: true; the input reads as it did. -/
def entriesBackUptoRow : OpenClaim := { program := "ytikodobglhjoiaa", sum := "e7c3ed94bb0bac98653b786c44a5382a17e3855e832c62957d50e2027f34c7a2", func := "annalist/annalistlaw13.EntriesBack", spec := "entriesBack", apart := false, narrowed := true }
def EntriesBackUptoSaid : Prop := entriesBackUptoRow.holds Try.pinned (OpenSpec.upto entriesBackSpec)

/-- 'annalistlaw13.EntriesForm', WHERE WHAT IT READS IS OF BULK AT MOST 1048576: true; the input reads as it did. -/
def entriesFormUptoRow : OpenClaim := { program := "ytikodobglhjoiaa", sum := "e7c3ed94bb0bac98653b786c44a5382a17e3855e832c62957d50e2027f34c7a2", func := "annalist/annalistlaw13.EntriesForm", spec := "entriesForm", apart := false, narrowed := true }
def EntriesFormUptoSaid : Prop := entriesFormUptoRow.holds Try.pinned (OpenSpec.upto entriesFormSpec)

/-- 'annalistlaw16.MemtablePlays', WHERE WHAT IT READS IS OF BULK AT MOST 1048576: true; the input reads as it did. -/
def memtablePlaysUptoRow : OpenClaim := { program := "ytikodobglhjoiaa", sum := "e7c3ed94bb0bac98653b786c44a5382a17e3855e832c62957d50e2027f34c7a2", func := "annalist/annalistlaw16.MemtablePlays", spec := "memtablePlays", apart := false, narrowed := true }
def MemtablePlaysUptoSaid : Prop := memtablePlaysUptoRow.holds Try.pinned (OpenSpec.upto memtablePlaysSpec)

/-- 'annalistlaw16.MemtableNone', WHERE WHAT IT READS IS OF BULK AT MOST 1048576: true; the input reads as it did. -/
def memtableNoneUptoRow : OpenClaim := { program := "ytikodobglhjoiaa", sum := "e7c3ed94bb0bac98653b786c44a5382a17e3855e832c62957d50e2027f34c7a2", func := "annalist/annalistlaw16.MemtableNone", spec := "memtableNone", apart := false, narrowed := true }
def MemtableNoneUptoSaid : Prop := memtableNoneUptoRow.holds Try.pinned (OpenSpec.upto memtableNoneSpec)

/-- 'annalistlaw16.MemtableParts', WHERE WHAT IT READS IS OF BULK AT MOST 1048576: true; the input reads as it did. -/
def memtablePartsUptoRow : OpenClaim := { program := "ytikodobglhjoiaa", sum := "e7c3ed94bb0bac98653b786c44a5382a17e3855e832c62957d50e2027f34c7a2", func := "annalist/annalistlaw16.MemtableParts", spec := "memtableParts", apart := false, narrowed := true }
def MemtablePartsUptoSaid : Prop := memtablePartsUptoRow.holds Try.pinned (OpenSpec.upto memtablePartsSpec)

/-- 'annalistlaw18.TablesTell', WHERE WHAT IT READS IS OF BULK AT MOST 1048576: true; the input reads as it did. -/
def tablesTellUptoRow : OpenClaim := { program := "ytikodobglhjoiaa", sum := "e7c3ed94bb0bac98653b786c44a5382a17e3855e832c62957d50e2027f34c7a2", func := "annalist/annalistlaw18.TablesTell", spec := "tablesTell", apart := false, narrowed := true }
def TablesTellUptoSaid : Prop := tablesTellUptoRow.holds Try.pinned (OpenSpec.upto tablesTellSpec)

/-- 'annalistlaw18.TablesBack', WHERE WHAT IT READS IS OF BULK AT MOST 1048576: true; the input reads as it did. -/
def tablesBackUptoRow : OpenClaim := { program := "ytikodobglhjoiaa", sum := "e7c3ed94bb0bac98653b786c44a5382a17e3855e832c62957d50e2027f34c7a2", func := "annalist/annalistlaw18.TablesBack", spec := "tablesBack", apart := false, narrowed := true }
def TablesBackUptoSaid : Prop := tablesBackUptoRow.holds Try.pinned (OpenSpec.upto tablesBackSpec)

/-- 'annalistlaw18.TablesSpoilt', WHERE WHAT IT READS IS OF BULK AT MOST 1048576: true; the input reads as it did. -/
def tablesSpoiltUptoRow : OpenClaim := { program := "ytikodobglhjoiaa", sum := "e7c3ed94bb0bac98653b786c44a5382a17e3855e832c62957d50e2027f34c7a2", func := "annalist/annalistlaw18.TablesSpoilt", spec := "tablesSpoilt", apart := false, narrowed := true }
def TablesSpoiltUptoSaid : Prop := tablesSpoiltUptoRow.holds Try.pinned (OpenSpec.upto tablesSpoiltSpec)

end Rows
end Go.Proofs.Ytikodobglhjoiaa
