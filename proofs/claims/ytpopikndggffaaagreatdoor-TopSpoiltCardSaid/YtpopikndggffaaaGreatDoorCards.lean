/-
  DERIVED. GIVEN WITH THE SEED: THE CARDS: each row of YtpopikndggffaaaGreatDoorRows.lean that lists a variable, with what it lists TIED to the program's text (the seventh form; the later family's looks); each row that meets fmt, with fmt's text TOLD by the authors' own Lean function (tested against real Go, not proved from fmt's source: count such statements apart). THE CARD IS WHAT COUNTS. Prove the row's statement (the work); the ties are given (YtpopikndggffaaaGreatDoorTie.lean); close each card by the builder's one call (the guide's Derived/Test/ToyasCard.lean, 'card_holds'). Laid BY PROGRAM, IN A SANDBOX (cutbox-door.mjs). By AI agents, Wed Nov 11 2026. No macro, syntax, notation, axiom, sorry.
-/
import Derived.Test.YtpopikndggffaaaGreatDoorRows
import GoSem.ClaimSeven
namespace Go.Proofs.YtpopikndggffaaaGreatDoor
namespace Rows

/-- THE TIED CARD OF 'annalisttop.TopModel'. -/
def topModelCard : Claim7 := { stood := { row := topModelRow, standIns := [], harness := (true, "16ea9f00932da951fa679c493a5ab51e98c07a76803ca7a990680e99f56e23d2"), looks := false }, kinds := [], alts := [], laidByText := true, laidKinds := [.data, .pinned], laidTests := true, laidLooks := .later }
def TopModelCardSaid : Prop := Claim7.holds Tryz.pinned (.plain (OpenSpec.ofChange topModelSpec)) topModelCard

/-- THE TIED CARD OF 'annalisttop.TopCrash'. -/
def topCrashCard : Claim7 := { stood := { row := topCrashRow, standIns := [], harness := (true, "16ea9f00932da951fa679c493a5ab51e98c07a76803ca7a990680e99f56e23d2"), looks := false }, kinds := [], alts := [], laidByText := true, laidKinds := [.data, .pinned], laidTests := true, laidLooks := .later }
def TopCrashCardSaid : Prop := Claim7.holds Tryz.pinned (.plain (OpenSpec.ofChange topCrashSpec)) topCrashCard

/-- THE TIED CARD OF 'annalisttop.TopSpoilt'. -/
def topSpoiltCard : Claim7 := { stood := { row := topSpoiltRow, standIns := [], harness := (true, "16ea9f00932da951fa679c493a5ab51e98c07a76803ca7a990680e99f56e23d2"), looks := false }, kinds := [], alts := [], laidByText := true, laidKinds := [.data, .pinned], laidTests := true, laidLooks := .later }
def TopSpoiltCardSaid : Prop := Claim7.holds Tryz.pinned (.plain (OpenSpec.ofChange topSpoiltSpec)) topSpoiltCard

/-- THE SECOND FORM's CARD OF 'annalisttop.TopModel'. -/
def topModelUptoCard : Claim7 := { stood := { row := topModelUptoRow, standIns := [], harness := (true, "16ea9f00932da951fa679c493a5ab51e98c07a76803ca7a990680e99f56e23d2"), looks := false }, kinds := [], alts := [], laidByText := true, laidKinds := [.data, .pinned], laidTests := true, laidLooks := .later }
def TopModelUptoCardSaid : Prop := Claim7.holds Tryz.pinned (.plain (OpenSpec.upto topModelSpec)) topModelUptoCard

/-- THE SECOND FORM's CARD OF 'annalisttop.TopCrash'. -/
def topCrashUptoCard : Claim7 := { stood := { row := topCrashUptoRow, standIns := [], harness := (true, "16ea9f00932da951fa679c493a5ab51e98c07a76803ca7a990680e99f56e23d2"), looks := false }, kinds := [], alts := [], laidByText := true, laidKinds := [.data, .pinned], laidTests := true, laidLooks := .later }
def TopCrashUptoCardSaid : Prop := Claim7.holds Tryz.pinned (.plain (OpenSpec.upto topCrashSpec)) topCrashUptoCard

/-- THE SECOND FORM's CARD OF 'annalisttop.TopSpoilt'. -/
def topSpoiltUptoCard : Claim7 := { stood := { row := topSpoiltUptoRow, standIns := [], harness := (true, "16ea9f00932da951fa679c493a5ab51e98c07a76803ca7a990680e99f56e23d2"), looks := false }, kinds := [], alts := [], laidByText := true, laidKinds := [.data, .pinned], laidTests := true, laidLooks := .later }
def TopSpoiltUptoCardSaid : Prop := Claim7.holds Tryz.pinned (.plain (OpenSpec.upto topSpoiltSpec)) topSpoiltUptoCard
end Rows
end Go.Proofs.YtpopikndggffaaaGreatDoor
