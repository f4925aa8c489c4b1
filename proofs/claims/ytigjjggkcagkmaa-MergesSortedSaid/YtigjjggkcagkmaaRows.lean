/-
  No cell of these rows narrows 'for every input' (looked for: loops, veiled, ifaces, maps, wideKeys, modest, calm, conditions, laid).
  DERIVED. THE GIVEN ROWS OF THIS SEAT. 12 by the template 'for every input the law returns true; each argument reads behind the call as it read before'; 0 by the template 'total and deterministic' (their statements: YtigjjggkcagkmaaTotals.lean).
  GIVEN WITH THE SEED: the statements are not yours to turn. If you find one false, say at which input.
  Laid BY PROGRAM, IN A SANDBOX (cutbox-rows.mjs): the forced cells as the released guide's own fill.sh prints them over the translation 2ae4b71babb86b00… (all of the seat's roots in one cut). By AI agents, Wed Nov 11 2026. No macro, syntax, notation, axiom, sorry.
-/
import Derived.Test.YtigjjggkcagkmaaChecked
import GoSem.Claim
import GoSem.ClaimJoined
import GoSem.ClaimMapViews
import Derived.JoinedTies
import Derived.KernelRfl
namespace Go.Proofs.Ytigjjggkcagkmaa
/- THE CELL 'sum', in the pinned program and in every row, IS THE sha256 OF THE DUMP (.gsa) THAT YtigjjggkcagkmaaProg.lean LOADS. Nothing in Lean hashes anything: it is a label: what it is worth is what the hold of that sum in a sandbox is worth. -/
noncomputable def Try.pinned : Pinned := { name := "ytigjjggkcagkmaa", sum := "2ae4b71babb86b00837a0dbf5513a396d70aff5a6277bff7d6ac84f382e25115", checked := Try.checked }
namespace Rows
def none {H : Type} : Left H := { results := [], args := [] }

/-- 'annalistlaw01.NumsTell': WHATEVER THE INPUT: true; the input reads as it did. -/
def numsTellSpec : ChangeSpec := { name := "numsTell", fn := fun _ => fun
  | [d1, d2, d3] => { results := [.lit (.bool true)], args := [d1, d2, d3] }
  | _ => none }
def numsTellRow : OpenClaim := { program := "ytigjjggkcagkmaa", sum := "2ae4b71babb86b00837a0dbf5513a396d70aff5a6277bff7d6ac84f382e25115", func := "annalist/annalistlaw01.NumsTell", spec := "numsTell", apart := false }
def NumsTellSaid : Prop := numsTellRow.holds Try.pinned (OpenSpec.ofChange numsTellSpec)

/-- ITS FALSE NEIGHBOUR: 'it returns false'. Refute it at one input. -/
def numsTellWrong : ChangeSpec := { name := "numsTell", fn := fun _ => fun
  | [d1, d2, d3] => { results := [.lit (.bool false)], args := [d1, d2, d3] }
  | _ => none }
def NumsTellWrongFalsely : Prop := numsTellRow.holds Try.pinned (OpenSpec.ofChange numsTellWrong)

/-- 'annalistlaw01.NumsTexts': WHATEVER THE INPUT: true; the input reads as it did. -/
def numsTextsSpec : ChangeSpec := { name := "numsTexts", fn := fun _ => fun
  | [d] => { results := [.lit (.bool true)], args := [d] }
  | _ => none }
def numsTextsRow : OpenClaim := { program := "ytigjjggkcagkmaa", sum := "2ae4b71babb86b00837a0dbf5513a396d70aff5a6277bff7d6ac84f382e25115", func := "annalist/annalistlaw01.NumsTexts", spec := "numsTexts", apart := false }
def NumsTextsSaid : Prop := numsTextsRow.holds Try.pinned (OpenSpec.ofChange numsTextsSpec)

/-- ITS FALSE NEIGHBOUR: 'it returns false'. Refute it at one input. -/
def numsTextsWrong : ChangeSpec := { name := "numsTexts", fn := fun _ => fun
  | [d] => { results := [.lit (.bool false)], args := [d] }
  | _ => none }
def NumsTextsWrongFalsely : Prop := numsTextsRow.holds Try.pinned (OpenSpec.ofChange numsTextsWrong)

/-- 'annalistlaw01.NumsBack': WHATEVER THE INPUT: true; the input reads as it did. -/
def numsBackSpec : ChangeSpec := { name := "numsBack", fn := fun _ => fun
  | [d1, d2, d3] => { results := [.lit (.bool true)], args := [d1, d2, d3] }
  | _ => none }
def numsBackRow : OpenClaim := { program := "ytigjjggkcagkmaa", sum := "2ae4b71babb86b00837a0dbf5513a396d70aff5a6277bff7d6ac84f382e25115", func := "annalist/annalistlaw01.NumsBack", spec := "numsBack", apart := false }
def NumsBackSaid : Prop := numsBackRow.holds Try.pinned (OpenSpec.ofChange numsBackSpec)

/-- ITS FALSE NEIGHBOUR: 'it returns false'. Refute it at one input. -/
def numsBackWrong : ChangeSpec := { name := "numsBack", fn := fun _ => fun
  | [d1, d2, d3] => { results := [.lit (.bool false)], args := [d1, d2, d3] }
  | _ => none }
def NumsBackWrongFalsely : Prop := numsBackRow.holds Try.pinned (OpenSpec.ofChange numsBackWrong)

/-- 'annalistlaw01.NumsRead': WHATEVER THE INPUT: true; the input reads as it did. -/
def numsReadSpec : ChangeSpec := { name := "numsRead", fn := fun _ => fun
  | [d1, d2, d3] => { results := [.lit (.bool true)], args := [d1, d2, d3] }
  | _ => none }
def numsReadRow : OpenClaim := { program := "ytigjjggkcagkmaa", sum := "2ae4b71babb86b00837a0dbf5513a396d70aff5a6277bff7d6ac84f382e25115", func := "annalist/annalistlaw01.NumsRead", spec := "numsRead", apart := false }
def NumsReadSaid : Prop := numsReadRow.holds Try.pinned (OpenSpec.ofChange numsReadSpec)

/-- ITS FALSE NEIGHBOUR: 'it returns false'. Refute it at one input. -/
def numsReadWrong : ChangeSpec := { name := "numsRead", fn := fun _ => fun
  | [d1, d2, d3] => { results := [.lit (.bool false)], args := [d1, d2, d3] }
  | _ => none }
def NumsReadWrongFalsely : Prop := numsReadRow.holds Try.pinned (OpenSpec.ofChange numsReadWrong)

/-- 'annalistlaw20.MergesTell': WHATEVER THE INPUT: true; the input reads as it did. -/
def mergesTellSpec : ChangeSpec := { name := "mergesTell", fn := fun _ => fun
  | [d] => { results := [.lit (.bool true)], args := [d] }
  | _ => none }
def mergesTellRow : OpenClaim := { program := "ytigjjggkcagkmaa", sum := "2ae4b71babb86b00837a0dbf5513a396d70aff5a6277bff7d6ac84f382e25115", func := "annalist/annalistlaw20.MergesTell", spec := "mergesTell", apart := false }
def MergesTellSaid : Prop := mergesTellRow.holds Try.pinned (OpenSpec.ofChange mergesTellSpec)

/-- ITS FALSE NEIGHBOUR: 'it returns false'. Refute it at one input. -/
def mergesTellWrong : ChangeSpec := { name := "mergesTell", fn := fun _ => fun
  | [d] => { results := [.lit (.bool false)], args := [d] }
  | _ => none }
def MergesTellWrongFalsely : Prop := mergesTellRow.holds Try.pinned (OpenSpec.ofChange mergesTellWrong)

/-- 'annalistlaw20.MergesOrder': WHATEVER THE INPUT: true; the input reads as it did. -/
def mergesOrderSpec : ChangeSpec := { name := "mergesOrder", fn := fun _ => fun
  | [d1, d2] => { results := [.lit (.bool true)], args := [d1, d2] }
  | _ => none }
def mergesOrderRow : OpenClaim := { program := "ytigjjggkcagkmaa", sum := "2ae4b71babb86b00837a0dbf5513a396d70aff5a6277bff7d6ac84f382e25115", func := "annalist/annalistlaw20.MergesOrder", spec := "mergesOrder", apart := false }
def MergesOrderSaid : Prop := mergesOrderRow.holds Try.pinned (OpenSpec.ofChange mergesOrderSpec)

/-- ITS FALSE NEIGHBOUR: 'it returns false'. Refute it at one input. -/
def mergesOrderWrong : ChangeSpec := { name := "mergesOrder", fn := fun _ => fun
  | [d1, d2] => { results := [.lit (.bool false)], args := [d1, d2] }
  | _ => none }
def MergesOrderWrongFalsely : Prop := mergesOrderRow.holds Try.pinned (OpenSpec.ofChange mergesOrderWrong)

/-- 'annalistlaw02.SumsTell': WHATEVER THE INPUT: true; the input reads as it did. -/
def sumsTellSpec : ChangeSpec := { name := "sumsTell", fn := fun _ => fun
  | [d1, d2] => { results := [.lit (.bool true)], args := [d1, d2] }
  | _ => none }
def sumsTellRow : OpenClaim := { program := "ytigjjggkcagkmaa", sum := "2ae4b71babb86b00837a0dbf5513a396d70aff5a6277bff7d6ac84f382e25115", func := "annalist/annalistlaw02.SumsTell", spec := "sumsTell", apart := false }
def SumsTellSaid : Prop := sumsTellRow.holds Try.pinned (OpenSpec.ofChange sumsTellSpec)

/-- ITS FALSE NEIGHBOUR: 'it returns false'. Refute it at one input. -/
def sumsTellWrong : ChangeSpec := { name := "sumsTell", fn := fun _ => fun
  | [d1, d2] => { results := [.lit (.bool false)], args := [d1, d2] }
  | _ => none }
def SumsTellWrongFalsely : Prop := sumsTellRow.holds Try.pinned (OpenSpec.ofChange sumsTellWrong)

/-- 'annalistlaw02.SumsSeal': WHATEVER THE INPUT: true; the input reads as it did. -/
def sumsSealSpec : ChangeSpec := { name := "sumsSeal", fn := fun _ => fun
  | [d] => { results := [.lit (.bool true)], args := [d] }
  | _ => none }
def sumsSealRow : OpenClaim := { program := "ytigjjggkcagkmaa", sum := "2ae4b71babb86b00837a0dbf5513a396d70aff5a6277bff7d6ac84f382e25115", func := "annalist/annalistlaw02.SumsSeal", spec := "sumsSeal", apart := false }
def SumsSealSaid : Prop := sumsSealRow.holds Try.pinned (OpenSpec.ofChange sumsSealSpec)

/-- ITS FALSE NEIGHBOUR: 'it returns false'. Refute it at one input. -/
def sumsSealWrong : ChangeSpec := { name := "sumsSeal", fn := fun _ => fun
  | [d] => { results := [.lit (.bool false)], args := [d] }
  | _ => none }
def SumsSealWrongFalsely : Prop := sumsSealRow.holds Try.pinned (OpenSpec.ofChange sumsSealWrong)

/-- 'annalistlaw02.SumsMore': WHATEVER THE INPUT: true; the input reads as it did. -/
def sumsMoreSpec : ChangeSpec := { name := "sumsMore", fn := fun _ => fun
  | [d1, d2, d3] => { results := [.lit (.bool true)], args := [d1, d2, d3] }
  | _ => none }
def sumsMoreRow : OpenClaim := { program := "ytigjjggkcagkmaa", sum := "2ae4b71babb86b00837a0dbf5513a396d70aff5a6277bff7d6ac84f382e25115", func := "annalist/annalistlaw02.SumsMore", spec := "sumsMore", apart := false }
def SumsMoreSaid : Prop := sumsMoreRow.holds Try.pinned (OpenSpec.ofChange sumsMoreSpec)

/-- ITS FALSE NEIGHBOUR: 'it returns false'. Refute it at one input. -/
def sumsMoreWrong : ChangeSpec := { name := "sumsMore", fn := fun _ => fun
  | [d1, d2, d3] => { results := [.lit (.bool false)], args := [d1, d2, d3] }
  | _ => none }
def SumsMoreWrongFalsely : Prop := sumsMoreRow.holds Try.pinned (OpenSpec.ofChange sumsMoreWrong)

/-- 'annalistlaw02.SumsTurned': WHATEVER THE INPUT: true; the input reads as it did. -/
def sumsTurnedSpec : ChangeSpec := { name := "sumsTurned", fn := fun _ => fun
  | [d1, d2, d3] => { results := [.lit (.bool true)], args := [d1, d2, d3] }
  | _ => none }
def sumsTurnedRow : OpenClaim := { program := "ytigjjggkcagkmaa", sum := "2ae4b71babb86b00837a0dbf5513a396d70aff5a6277bff7d6ac84f382e25115", func := "annalist/annalistlaw02.SumsTurned", spec := "sumsTurned", apart := false }
def SumsTurnedSaid : Prop := sumsTurnedRow.holds Try.pinned (OpenSpec.ofChange sumsTurnedSpec)

/-- ITS FALSE NEIGHBOUR: 'it returns false'. Refute it at one input. -/
def sumsTurnedWrong : ChangeSpec := { name := "sumsTurned", fn := fun _ => fun
  | [d1, d2, d3] => { results := [.lit (.bool false)], args := [d1, d2, d3] }
  | _ => none }
def SumsTurnedWrongFalsely : Prop := sumsTurnedRow.holds Try.pinned (OpenSpec.ofChange sumsTurnedWrong)

/-- 'annalistlaw02.SumsAlike': WHATEVER THE INPUT: true; the input reads as it did. -/
def sumsAlikeSpec : ChangeSpec := { name := "sumsAlike", fn := fun _ => fun
  | [d1, d2, d3] => { results := [.lit (.bool true)], args := [d1, d2, d3] }
  | _ => none }
def sumsAlikeRow : OpenClaim := { program := "ytigjjggkcagkmaa", sum := "2ae4b71babb86b00837a0dbf5513a396d70aff5a6277bff7d6ac84f382e25115", func := "annalist/annalistlaw02.SumsAlike", spec := "sumsAlike", apart := false }
def SumsAlikeSaid : Prop := sumsAlikeRow.holds Try.pinned (OpenSpec.ofChange sumsAlikeSpec)

/-- ITS FALSE NEIGHBOUR: 'it returns false'. Refute it at one input. -/
def sumsAlikeWrong : ChangeSpec := { name := "sumsAlike", fn := fun _ => fun
  | [d1, d2, d3] => { results := [.lit (.bool false)], args := [d1, d2, d3] }
  | _ => none }
def SumsAlikeWrongFalsely : Prop := sumsAlikeRow.holds Try.pinned (OpenSpec.ofChange sumsAlikeWrong)

/-- 'annalistlaw20.MergesSorted': WHATEVER THE INPUT: true; the input reads as it did. -/
def mergesSortedSpec : ChangeSpec := { name := "mergesSorted", fn := fun _ => fun
  | [d] => { results := [.lit (.bool true)], args := [d] }
  | _ => none }
def mergesSortedRow : OpenClaim := { program := "ytigjjggkcagkmaa", sum := "2ae4b71babb86b00837a0dbf5513a396d70aff5a6277bff7d6ac84f382e25115", func := "annalist/annalistlaw20.MergesSorted", spec := "mergesSorted", apart := false }
def MergesSortedSaid : Prop := mergesSortedRow.holds Try.pinned (OpenSpec.ofChange mergesSortedSpec)

/-- ITS FALSE NEIGHBOUR: 'it returns false'. Refute it at one input. -/
def mergesSortedWrong : ChangeSpec := { name := "mergesSorted", fn := fun _ => fun
  | [d] => { results := [.lit (.bool false)], args := [d] }
  | _ => none }
def MergesSortedWrongFalsely : Prop := mergesSortedRow.holds Try.pinned (OpenSpec.ofChange mergesSortedWrong)

/- THE SECOND FORM. 'bulk': how many values and letters a reading holds, each counted each time it is reached (what is shared counts as often as it is met; a slice's spare places count too). A statement '..UptoSaid' is the law's where the arguments, and the package variables that the reading takes, are together of bulk at most 1048576: NARROWER than '..Said'. Prove '..Said' where nothing that the law and all that it calls make is longer than what came in: it says more and counts as full. Else prove '..UptoSaid'. A law counts once. -/
mutual
def uptoBulk {H : Type} : DataW H → Nat
  | .lit (.string bytes) => bytes.length + 1
  | .lit _ => 1
  | .nil => 1
  | .ptr d => uptoBulk d + 1
  | .slice elems spare => uptoBulkAll elems + uptoBulkAll spare + 1
  | .agg parts => uptoBulkAll parts + 1
  | .iface _ d => uptoBulk d + 1
  | .map entries => uptoBulkEntries entries + 1
  | .held _ => 1
def uptoBulkAll {H : Type} : List (DataW H) → Nat
  | [] => 0
  | d :: r => uptoBulk d + uptoBulkAll r
def uptoBulkEntries {H : Type} : List (Lit × DataW H) → Nat
  | [] => 0
  | x :: r => uptoBulkEntry x + uptoBulkEntries r
def uptoBulkEntry {H : Type} : Lit × DataW H → Nat
  | (.string bytes, d) => bytes.length + uptoBulk d + 1
  | (_, d) => uptoBulk d + 1
 end
def uptoSmall : (H : Type) → List (DataW H) → Bool := fun _ ds => decide (uptoBulkAll ds ≤ 1048576)
def OpenSpec.upto (s : _root_.Go.ChangeSpec) : _root_.Go.OpenSpec := { _root_.Go.OpenSpec.ofChange s with cond := some uptoSmall }

/-- 'annalistlaw01.NumsTell', WHERE WHAT IT READS IS OF BULK AT MOST 1048576: true; the input reads as it did. -/
def numsTellUptoRow : OpenClaim := { program := "ytigjjggkcagkmaa", sum := "2ae4b71babb86b00837a0dbf5513a396d70aff5a6277bff7d6ac84f382e25115", func := "annalist/annalistlaw01.NumsTell", spec := "numsTell", apart := false, narrowed := true }
def NumsTellUptoSaid : Prop := numsTellUptoRow.holds Try.pinned (OpenSpec.upto numsTellSpec)

/-- 'annalistlaw01.NumsTexts', WHERE WHAT IT READS IS OF BULK AT MOST 1048576: true; the input reads as it did. -/
def numsTextsUptoRow : OpenClaim := { program := "ytigjjggkcagkmaa", sum := "2ae4b71babb86b00837a0dbf5513a396d70aff5a6277bff7d6ac84f382e25115", func := "annalist/annalistlaw01.NumsTexts", spec := "numsTexts", apart := false, narrowed := true }
def NumsTextsUptoSaid : Prop := numsTextsUptoRow.holds Try.pinned (OpenSpec.upto numsTextsSpec)

/-- 'annalistlaw01.NumsBack', WHERE WHAT IT READS IS OF BULK AT MOST 1048576: true; the input reads as it did. -/
def numsBackUptoRow : OpenClaim := { program := "ytigjjggkcagkmaa", sum := "2ae4b71babb86b00837a0dbf5513a396d70aff5a6277bff7d6ac84f382e25115", func := "annalist/annalistlaw01.NumsBack", spec := "numsBack", apart := false, narrowed := true }
def NumsBackUptoSaid : Prop := numsBackUptoRow.holds Try.pinned (OpenSpec.upto numsBackSpec)

/-- 'annalistlaw01.NumsRead', WHERE WHAT IT READS IS OF BULK AT MOST 1048576: true; the input reads as it did. -/
def numsReadUptoRow : OpenClaim := { program := "ytigjjggkcagkmaa", sum := "2ae4b71babb86b00837a0dbf5513a396d70aff5a6277bff7d6ac84f382e25115", func := "annalist/annalistlaw01.NumsRead", spec := "numsRead", apart := false, narrowed := true }
def NumsReadUptoSaid : Prop := numsReadUptoRow.holds Try.pinned (OpenSpec.upto numsReadSpec)

/-- 'annalistlaw20.MergesTell', WHERE WHAT IT READS IS OF BULK AT MOST 1048576: true; the input reads as it did. -/
def mergesTellUptoRow : OpenClaim := { program := "ytigjjggkcagkmaa", sum := "2ae4b71babb86b00837a0dbf5513a396d70aff5a6277bff7d6ac84f382e25115", func := "annalist/annalistlaw20.MergesTell", spec := "mergesTell", apart := false, narrowed := true }
def MergesTellUptoSaid : Prop := mergesTellUptoRow.holds Try.pinned (OpenSpec.upto mergesTellSpec)

/-- 'annalistlaw20.MergesOrder', WHERE WHAT IT READS IS OF BULK AT MOST 1048576: true; the input reads as it did. -/
def mergesOrderUptoRow : OpenClaim := { program := "ytigjjggkcagkmaa", sum := "2ae4b71babb86b00837a0dbf5513a396d70aff5a6277bff7d6ac84f382e25115", func := "annalist/annalistlaw20.MergesOrder", spec := "mergesOrder", apart := false, narrowed := true }
def MergesOrderUptoSaid : Prop := mergesOrderUptoRow.holds Try.pinned (OpenSpec.upto mergesOrderSpec)

/-- 'annalistlaw02.SumsTell', WHERE WHAT IT READS IS OF BULK AT MOST 1048576: true; the input reads as it did. -/
def sumsTellUptoRow : OpenClaim := { program := "ytigjjggkcagkmaa", sum := "2ae4b71babb86b00837a0dbf5513a396d70aff5a6277bff7d6ac84f382e25115", func := "annalist/annalistlaw02.SumsTell", spec := "sumsTell", apart := false, narrowed := true }
def SumsTellUptoSaid : Prop := sumsTellUptoRow.holds Try.pinned (OpenSpec.upto sumsTellSpec)

/-- 'annalistlaw02.SumsSeal', WHERE WHAT IT READS IS OF BULK AT MOST 1048576: true; the input reads as it did. -/
def sumsSealUptoRow : OpenClaim := { program := "ytigjjggkcagkmaa", sum := "2ae4b71babb86b00837a0dbf5513a396d70aff5a6277bff7d6ac84f382e25115", func := "annalist/annalistlaw02.SumsSeal", spec := "sumsSeal", apart := false, narrowed := true }
def SumsSealUptoSaid : Prop := sumsSealUptoRow.holds Try.pinned (OpenSpec.upto sumsSealSpec)

/-- 'annalistlaw02.SumsMore', WHERE WHAT IT READS IS OF BULK AT MOST 1048576: true; the input reads as it did. -/
def sumsMoreUptoRow : OpenClaim := { program := "ytigjjggkcagkmaa", sum := "2ae4b71babb86b00837a0dbf5513a396d70aff5a6277bff7d6ac84f382e25115", func := "annalist/annalistlaw02.SumsMore", spec := "sumsMore", apart := false, narrowed := true }
def SumsMoreUptoSaid : Prop := sumsMoreUptoRow.holds Try.pinned (OpenSpec.upto sumsMoreSpec)

/-- 'annalistlaw02.SumsTurned', WHERE WHAT IT READS IS OF BULK AT MOST 1048576: true; the input reads as it did. -/
def sumsTurnedUptoRow : OpenClaim := { program := "ytigjjggkcagkmaa", sum := "2ae4b71babb86b00837a0dbf5513a396d70aff5a6277bff7d6ac84f382e25115", func := "annalist/annalistlaw02.SumsTurned", spec := "sumsTurned", apart := false, narrowed := true }
def SumsTurnedUptoSaid : Prop := sumsTurnedUptoRow.holds Try.pinned (OpenSpec.upto sumsTurnedSpec)

/-- 'annalistlaw02.SumsAlike', WHERE WHAT IT READS IS OF BULK AT MOST 1048576: true; the input reads as it did. -/
def sumsAlikeUptoRow : OpenClaim := { program := "ytigjjggkcagkmaa", sum := "2ae4b71babb86b00837a0dbf5513a396d70aff5a6277bff7d6ac84f382e25115", func := "annalist/annalistlaw02.SumsAlike", spec := "sumsAlike", apart := false, narrowed := true }
def SumsAlikeUptoSaid : Prop := sumsAlikeUptoRow.holds Try.pinned (OpenSpec.upto sumsAlikeSpec)

/-- 'annalistlaw20.MergesSorted', WHERE WHAT IT READS IS OF BULK AT MOST 1048576: true; the input reads as it did. -/
def mergesSortedUptoRow : OpenClaim := { program := "ytigjjggkcagkmaa", sum := "2ae4b71babb86b00837a0dbf5513a396d70aff5a6277bff7d6ac84f382e25115", func := "annalist/annalistlaw20.MergesSorted", spec := "mergesSorted", apart := false, narrowed := true }
def MergesSortedUptoSaid : Prop := mergesSortedUptoRow.holds Try.pinned (OpenSpec.upto mergesSortedSpec)

end Rows
end Go.Proofs.Ytigjjggkcagkmaa
