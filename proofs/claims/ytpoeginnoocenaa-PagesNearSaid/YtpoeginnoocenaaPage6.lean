/-
  PAGES: the chapter's file, plainly.
-/
import Derived.Test.YtpoeginnoocenaaPage5
import Derived.Test.YtpoeginnoocenaaPage1
namespace Go.Proofs.Ytpoeginnoocenaa
open Go.RowKit Go.Maps
set_option linter.unusedVariables false

def pgB : List UInt8 := List.replicate 60 255 ++ List.replicate 60 0
def pgS : List UInt8 := fileP pgB 1
def pgT : List UInt8 := pgS.set 191 (pgS.getD 191 0 ^^^ 1)
def pgU : List UInt8 := pgS.set 0 (pgS.getD 0 0 ^^^ 1)
set_option maxRecDepth 100000 in
theorem pg_len : pgS.length = 192 := by decide +kernel
set_option maxRecDepth 100000 in
theorem pg_yes : mayF pgS 0 = true := by decide +kernel
set_option maxRecDepth 100000 in
theorem pg_no : mayF pgS 480 = false := by decide +kernel
set_option maxRecDepth 100000 in
theorem pg_t0 : mayF pgT 0 = true := by decide +kernel
set_option maxRecDepth 100000 in
theorem pg_t480 : mayF pgT 480 = true := by decide +kernel
set_option maxRecDepth 100000 in
theorem pg_u : mayF pgU 480 = true := by decide +kernel
set_option maxRecDepth 100000 in
theorem pg_short : mayF (pgS.take 191) 480 = true := by decide +kernel
theorem pg_none : mayF [] 480 = true := by decide +kernel
theorem pg_put0 : fileP [] 1 = [] := by decide +kernel
theorem pg_put17 : fileP pgB 17 = [] := by decide +kernel
end Go.Proofs.Ytpoeginnoocenaa
