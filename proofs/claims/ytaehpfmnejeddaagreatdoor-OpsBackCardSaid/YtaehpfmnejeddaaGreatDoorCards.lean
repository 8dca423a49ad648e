/-
  DERIVED. GIVEN WITH THE SEED: THE CARDS: each row of YtaehpfmnejeddaaGreatDoorRows.lean that lists a variable, with what it lists TIED to the program's text (the seventh form; the later family's looks); each row that meets fmt, with fmt's text TOLD by the authors' own Lean function (tested against real Go, not proved from fmt's source: count such statements apart). THE CARD IS WHAT COUNTS. Prove the row's statement (the work); the ties are given (YtaehpfmnejeddaaGreatDoorTie.lean); close each card by the builder's one call (the guide's Derived/Test/ToyasCard.lean, 'card_holds'). Laid BY PROGRAM, IN A SANDBOX (cutbox-door.mjs). By AI agents, Wed Nov 11 2026. No macro, syntax, notation, axiom, sorry.
-/
import Derived.Test.YtaehpfmnejeddaaGreatDoorRows
import GoSem.ClaimSeven
namespace Go.Proofs.YtaehpfmnejeddaaGreatDoor
namespace Rows

/-- THE TIED CARD OF 'transomlaw14.OpsChanges'. -/
def opsChangesCard : Claim7 := { stood := { row := opsChangesRow, standIns := [], harness := (true, "5ed9f94a4c38e6259026237c3db99a9841312be7649da136bdd1d808e62ad10f"), looks := true }, kinds := [], alts := [], laidByText := true, laidKinds := [.handle], laidTests := true, laidLooks := .later }
def OpsChangesCardSaid : Prop := Claim7.holds Tryz.pinned (.plain (OpenSpec.ofChange opsChangesSpec)) opsChangesCard

/-- THE TIED CARD OF 'transomlaw14.OpsPuts'. -/
def opsPutsCard : Claim7 := { stood := { row := opsPutsRow, standIns := [], harness := (true, "5ed9f94a4c38e6259026237c3db99a9841312be7649da136bdd1d808e62ad10f"), looks := true }, kinds := [], alts := [], laidByText := true, laidKinds := [.handle], laidTests := true, laidLooks := .later }
def OpsPutsCardSaid : Prop := Claim7.holds Tryz.pinned (.plain (OpenSpec.ofChange opsPutsSpec)) opsPutsCard

/-- THE TIED CARD OF 'transomlaw14.OpsReads'. -/
def opsReadsCard : Claim7 := { stood := { row := opsReadsRow, standIns := [], harness := (true, "5ed9f94a4c38e6259026237c3db99a9841312be7649da136bdd1d808e62ad10f"), looks := true }, kinds := [], alts := [], laidByText := true, laidKinds := [.handle], laidTests := true, laidLooks := .later }
def OpsReadsCardSaid : Prop := Claim7.holds Tryz.pinned (.plain (OpenSpec.ofChange opsReadsSpec)) opsReadsCard

/-- THE TIED CARD OF 'transomlaw14.OpsBack'. -/
def opsBackCard : Claim7 := { stood := { row := opsBackRow, standIns := [], harness := (true, "5ed9f94a4c38e6259026237c3db99a9841312be7649da136bdd1d808e62ad10f"), looks := true }, kinds := [], alts := [], laidByText := true, laidKinds := [.handle], laidTests := true, laidLooks := .later }
def OpsBackCardSaid : Prop := Claim7.holds Tryz.pinned (.plain (OpenSpec.ofChange opsBackSpec)) opsBackCard

/-- THE TIED CARD OF 'transomlaw14.OpsTwo'. -/
def opsTwoCard : Claim7 := { stood := { row := opsTwoRow, standIns := [], harness := (true, "5ed9f94a4c38e6259026237c3db99a9841312be7649da136bdd1d808e62ad10f"), looks := true }, kinds := [], alts := [], laidByText := true, laidKinds := [.handle], laidTests := true, laidLooks := .later }
def OpsTwoCardSaid : Prop := Claim7.holds Tryz.pinned (.plain (OpenSpec.ofChange opsTwoSpec)) opsTwoCard

/-- THE SECOND FORM's CARD OF 'transomlaw14.OpsChanges'. -/
def opsChangesUptoCard : Claim7 := { stood := { row := opsChangesUptoRow, standIns := [], harness := (true, "5ed9f94a4c38e6259026237c3db99a9841312be7649da136bdd1d808e62ad10f"), looks := true }, kinds := [], alts := [], laidByText := true, laidKinds := [.handle], laidTests := true, laidLooks := .later }
def OpsChangesUptoCardSaid : Prop := Claim7.holds Tryz.pinned (.plain (OpenSpec.upto opsChangesSpec)) opsChangesUptoCard

/-- THE SECOND FORM's CARD OF 'transomlaw14.OpsPuts'. -/
def opsPutsUptoCard : Claim7 := { stood := { row := opsPutsUptoRow, standIns := [], harness := (true, "5ed9f94a4c38e6259026237c3db99a9841312be7649da136bdd1d808e62ad10f"), looks := true }, kinds := [], alts := [], laidByText := true, laidKinds := [.handle], laidTests := true, laidLooks := .later }
def OpsPutsUptoCardSaid : Prop := Claim7.holds Tryz.pinned (.plain (OpenSpec.upto opsPutsSpec)) opsPutsUptoCard

/-- THE SECOND FORM's CARD OF 'transomlaw14.OpsReads'. -/
def opsReadsUptoCard : Claim7 := { stood := { row := opsReadsUptoRow, standIns := [], harness := (true, "5ed9f94a4c38e6259026237c3db99a9841312be7649da136bdd1d808e62ad10f"), looks := true }, kinds := [], alts := [], laidByText := true, laidKinds := [.handle], laidTests := true, laidLooks := .later }
def OpsReadsUptoCardSaid : Prop := Claim7.holds Tryz.pinned (.plain (OpenSpec.upto opsReadsSpec)) opsReadsUptoCard

/-- THE SECOND FORM's CARD OF 'transomlaw14.OpsBack'. -/
def opsBackUptoCard : Claim7 := { stood := { row := opsBackUptoRow, standIns := [], harness := (true, "5ed9f94a4c38e6259026237c3db99a9841312be7649da136bdd1d808e62ad10f"), looks := true }, kinds := [], alts := [], laidByText := true, laidKinds := [.handle], laidTests := true, laidLooks := .later }
def OpsBackUptoCardSaid : Prop := Claim7.holds Tryz.pinned (.plain (OpenSpec.upto opsBackSpec)) opsBackUptoCard

/-- THE SECOND FORM's CARD OF 'transomlaw14.OpsTwo'. -/
def opsTwoUptoCard : Claim7 := { stood := { row := opsTwoUptoRow, standIns := [], harness := (true, "5ed9f94a4c38e6259026237c3db99a9841312be7649da136bdd1d808e62ad10f"), looks := true }, kinds := [], alts := [], laidByText := true, laidKinds := [.handle], laidTests := true, laidLooks := .later }
def OpsTwoUptoCardSaid : Prop := Claim7.holds Tryz.pinned (.plain (OpenSpec.upto opsTwoSpec)) opsTwoUptoCard
end Rows
end Go.Proofs.YtaehpfmnejeddaaGreatDoor
