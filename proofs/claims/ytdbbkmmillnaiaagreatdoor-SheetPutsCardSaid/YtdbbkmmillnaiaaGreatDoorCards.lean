/-
  DERIVED. GIVEN WITH THE SEED: THE CARDS: each row of YtdbbkmmillnaiaaGreatDoorRows.lean that lists a variable, with what it lists TIED to the program's text (the seventh form; the later family's looks); each row that meets fmt, with fmt's text TOLD by the authors' own Lean function (tested against real Go, not proved from fmt's source: count such statements apart). THE CARD IS WHAT COUNTS. Prove the row's statement (the work); the ties are given (YtdbbkmmillnaiaaGreatDoorTie.lean); close each card by the builder's one call (the guide's Derived/Test/ToyasCard.lean, 'card_holds'). Laid BY PROGRAM, IN A SANDBOX (cutbox-door.mjs). By AI agents, Wed Nov 11 2026. No macro, syntax, notation, axiom, sorry.
-/
import Derived.Test.YtdbbkmmillnaiaaGreatDoorRows
import GoSem.ClaimSeven
namespace Go.Proofs.YtdbbkmmillnaiaaGreatDoor
namespace Rows

/-- THE TIED CARD OF 'transomlaw12.SheetPuts'. -/
def sheetPutsCard : Claim7 := { stood := { row := sheetPutsRow, standIns := [], harness := (true, "c1218f3839f5798c9b2fa6ba6f4df5942435a1280a04df7e11ddf800890b13fb"), looks := true }, kinds := [], alts := [], laidByText := true, laidKinds := [.handle], laidTests := true, laidLooks := .later }
def SheetPutsCardSaid : Prop := Claim7.holds Tryz.pinned (.plain (OpenSpec.ofChange sheetPutsSpec)) sheetPutsCard

/-- THE SECOND FORM's CARD OF 'transomlaw12.SheetPuts'. -/
def sheetPutsUptoCard : Claim7 := { stood := { row := sheetPutsUptoRow, standIns := [], harness := (true, "c1218f3839f5798c9b2fa6ba6f4df5942435a1280a04df7e11ddf800890b13fb"), looks := true }, kinds := [], alts := [], laidByText := true, laidKinds := [.handle], laidTests := true, laidLooks := .later }
def SheetPutsUptoCardSaid : Prop := Claim7.holds Tryz.pinned (.plain (OpenSpec.upto sheetPutsSpec)) sheetPutsUptoCard
end Rows
end Go.Proofs.YtdbbkmmillnaiaaGreatDoor
