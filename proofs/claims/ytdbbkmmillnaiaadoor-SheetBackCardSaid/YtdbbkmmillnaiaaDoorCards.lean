/-
  DERIVED. GIVEN WITH THE SEED: THE CARDS: each row of YtdbbkmmillnaiaaDoorRows.lean that lists a variable, with what it lists TIED to the program's text (the seventh form; the later family's looks); each row that meets fmt, with fmt's text TOLD by the authors' own Lean function (tested against real Go, not proved from fmt's source: count such statements apart). THE CARD IS WHAT COUNTS. Prove the row's statement (the work); the ties are given (YtdbbkmmillnaiaaDoorTie.lean); close each card by the builder's one call (the guide's Derived/Test/ToyasCard.lean, 'card_holds'). Laid BY PROGRAM, IN A SANDBOX (cutbox-door.mjs). By AI agents, Wed Nov 11 2026. No macro, syntax, notation, axiom, sorry.
-/
import Derived.Test.YtdbbkmmillnaiaaDoorRows
import GoSem.ClaimSeven
namespace Go.Proofs.YtdbbkmmillnaiaaDoor
namespace Rows

/-- THE TIED CARD OF 'transomlaw12.SheetChecks'. -/
def sheetChecksCard : Claim7 := { stood := { row := sheetChecksRow, standIns := [], harness := (true, "b734be927df4315e6b56e4faae8c2f4064ea71a2f318260439e0d930db038abf"), looks := true }, kinds := [], alts := [], laidByText := true, laidKinds := [.handle], laidTests := true, laidLooks := .later }
def SheetChecksCardSaid : Prop := Claim7.holds Tryd.pinned (.plain (OpenSpec.ofChange sheetChecksSpec)) sheetChecksCard

/-- THE TIED CARD OF 'transomlaw12.SheetRanges'. -/
def sheetRangesCard : Claim7 := { stood := { row := sheetRangesRow, standIns := [], harness := (true, "b734be927df4315e6b56e4faae8c2f4064ea71a2f318260439e0d930db038abf"), looks := true }, kinds := [], alts := [], laidByText := true, laidKinds := [.handle], laidTests := true, laidLooks := .later }
def SheetRangesCardSaid : Prop := Claim7.holds Tryd.pinned (.plain (OpenSpec.ofChange sheetRangesSpec)) sheetRangesCard

/-- THE TIED CARD OF 'transomlaw12.SheetMerges'. -/
def sheetMergesCard : Claim7 := { stood := { row := sheetMergesRow, standIns := [], harness := (true, "b734be927df4315e6b56e4faae8c2f4064ea71a2f318260439e0d930db038abf"), looks := true }, kinds := [], alts := [], laidByText := true, laidKinds := [.handle], laidTests := true, laidLooks := .later }
def SheetMergesCardSaid : Prop := Claim7.holds Tryd.pinned (.plain (OpenSpec.ofChange sheetMergesSpec)) sheetMergesCard

/-- THE TIED CARD OF 'transomlaw12.SheetBack'. -/
def sheetBackCard : Claim7 := { stood := { row := sheetBackRow, standIns := [], harness := (true, "b734be927df4315e6b56e4faae8c2f4064ea71a2f318260439e0d930db038abf"), looks := true }, kinds := [], alts := [], laidByText := true, laidKinds := [.handle], laidTests := true, laidLooks := .later }
def SheetBackCardSaid : Prop := Claim7.holds Tryd.pinned (.plain (OpenSpec.ofChange sheetBackSpec)) sheetBackCard

/-- THE SECOND FORM's CARD OF 'transomlaw12.SheetChecks'. -/
def sheetChecksUptoCard : Claim7 := { stood := { row := sheetChecksUptoRow, standIns := [], harness := (true, "b734be927df4315e6b56e4faae8c2f4064ea71a2f318260439e0d930db038abf"), looks := true }, kinds := [], alts := [], laidByText := true, laidKinds := [.handle], laidTests := true, laidLooks := .later }
def SheetChecksUptoCardSaid : Prop := Claim7.holds Tryd.pinned (.plain (OpenSpec.upto sheetChecksSpec)) sheetChecksUptoCard

/-- THE SECOND FORM's CARD OF 'transomlaw12.SheetRanges'. -/
def sheetRangesUptoCard : Claim7 := { stood := { row := sheetRangesUptoRow, standIns := [], harness := (true, "b734be927df4315e6b56e4faae8c2f4064ea71a2f318260439e0d930db038abf"), looks := true }, kinds := [], alts := [], laidByText := true, laidKinds := [.handle], laidTests := true, laidLooks := .later }
def SheetRangesUptoCardSaid : Prop := Claim7.holds Tryd.pinned (.plain (OpenSpec.upto sheetRangesSpec)) sheetRangesUptoCard

/-- THE SECOND FORM's CARD OF 'transomlaw12.SheetMerges'. -/
def sheetMergesUptoCard : Claim7 := { stood := { row := sheetMergesUptoRow, standIns := [], harness := (true, "b734be927df4315e6b56e4faae8c2f4064ea71a2f318260439e0d930db038abf"), looks := true }, kinds := [], alts := [], laidByText := true, laidKinds := [.handle], laidTests := true, laidLooks := .later }
def SheetMergesUptoCardSaid : Prop := Claim7.holds Tryd.pinned (.plain (OpenSpec.upto sheetMergesSpec)) sheetMergesUptoCard

/-- THE SECOND FORM's CARD OF 'transomlaw12.SheetBack'. -/
def sheetBackUptoCard : Claim7 := { stood := { row := sheetBackUptoRow, standIns := [], harness := (true, "b734be927df4315e6b56e4faae8c2f4064ea71a2f318260439e0d930db038abf"), looks := true }, kinds := [], alts := [], laidByText := true, laidKinds := [.handle], laidTests := true, laidLooks := .later }
def SheetBackUptoCardSaid : Prop := Claim7.holds Tryd.pinned (.plain (OpenSpec.upto sheetBackSpec)) sheetBackUptoCard
end Rows
end Go.Proofs.YtdbbkmmillnaiaaDoor
