/-
  DERIVED. GIVEN WITH THE SEED: THE CARDS: each row of YtijjlpgcpdapnaaGreatDoorRows.lean that lists a variable, with what it lists TIED to the program's text (the seventh form; the later family's looks); each row that meets fmt, with fmt's text TOLD by the authors' own Lean function (tested against real Go, not proved from fmt's source: count such statements apart). THE CARD IS WHAT COUNTS. Prove the row's statement (the work); the ties are given (YtijjlpgcpdapnaaGreatDoorTie.lean); close each card by the builder's one call (the guide's Derived/Test/ToyasCard.lean, 'card_holds'). Laid BY PROGRAM, IN A SANDBOX (cutbox-door.mjs). By AI agents, Wed Nov 11 2026. No macro, syntax, notation, axiom, sorry.
-/
import Derived.Test.YtijjlpgcpdapnaaGreatDoorRows
import GoSem.ClaimSeven
namespace Go.Proofs.YtijjlpgcpdapnaaGreatDoor
namespace Rows

/-- THE TIED CARD OF 'transomlaw11.TransformOne'. -/
def transformOneCard : Claim7 := { stood := { row := transformOneRow, standIns := [], harness := (true, "2987d6ee227b9f11e144e9ea327c8ff1f8a5b283e2790f7a1d97c82ae8b45bae"), looks := true }, kinds := [], alts := [], laidByText := true, laidKinds := [.handle], laidTests := true, laidLooks := .later }
def TransformOneCardSaid : Prop := Claim7.holds Tryz.pinned (.plain (OpenSpec.ofChange transformOneSpec)) transformOneCard

/-- THE TIED CARD OF 'transomlaw11.TransformAll'. -/
def transformAllCard : Claim7 := { stood := { row := transformAllRow, standIns := [], harness := (true, "2987d6ee227b9f11e144e9ea327c8ff1f8a5b283e2790f7a1d97c82ae8b45bae"), looks := true }, kinds := [], alts := [], laidByText := true, laidKinds := [.handle], laidTests := true, laidLooks := .later }
def TransformAllCardSaid : Prop := Claim7.holds Tryz.pinned (.plain (OpenSpec.ofChange transformAllSpec)) transformAllCard

/-- THE TIED CARD OF 'transomlaw11.TransformFits'. -/
def transformFitsCard : Claim7 := { stood := { row := transformFitsRow, standIns := [], harness := (true, "2987d6ee227b9f11e144e9ea327c8ff1f8a5b283e2790f7a1d97c82ae8b45bae"), looks := true }, kinds := [], alts := [], laidByText := true, laidKinds := [.handle], laidTests := true, laidLooks := .later }
def TransformFitsCardSaid : Prop := Claim7.holds Tryz.pinned (.plain (OpenSpec.ofChange transformFitsSpec)) transformFitsCard

/-- THE SECOND FORM's CARD OF 'transomlaw11.TransformOne'. -/
def transformOneUptoCard : Claim7 := { stood := { row := transformOneUptoRow, standIns := [], harness := (true, "2987d6ee227b9f11e144e9ea327c8ff1f8a5b283e2790f7a1d97c82ae8b45bae"), looks := true }, kinds := [], alts := [], laidByText := true, laidKinds := [.handle], laidTests := true, laidLooks := .later }
def TransformOneUptoCardSaid : Prop := Claim7.holds Tryz.pinned (.plain (OpenSpec.upto transformOneSpec)) transformOneUptoCard

/-- THE SECOND FORM's CARD OF 'transomlaw11.TransformAll'. -/
def transformAllUptoCard : Claim7 := { stood := { row := transformAllUptoRow, standIns := [], harness := (true, "2987d6ee227b9f11e144e9ea327c8ff1f8a5b283e2790f7a1d97c82ae8b45bae"), looks := true }, kinds := [], alts := [], laidByText := true, laidKinds := [.handle], laidTests := true, laidLooks := .later }
def TransformAllUptoCardSaid : Prop := Claim7.holds Tryz.pinned (.plain (OpenSpec.upto transformAllSpec)) transformAllUptoCard

/-- THE SECOND FORM's CARD OF 'transomlaw11.TransformFits'. -/
def transformFitsUptoCard : Claim7 := { stood := { row := transformFitsUptoRow, standIns := [], harness := (true, "2987d6ee227b9f11e144e9ea327c8ff1f8a5b283e2790f7a1d97c82ae8b45bae"), looks := true }, kinds := [], alts := [], laidByText := true, laidKinds := [.handle], laidTests := true, laidLooks := .later }
def TransformFitsUptoCardSaid : Prop := Claim7.holds Tryz.pinned (.plain (OpenSpec.upto transformFitsSpec)) transformFitsUptoCard
end Rows
end Go.Proofs.YtijjlpgcpdapnaaGreatDoor
