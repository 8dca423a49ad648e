/-
  DERIVED. GIVEN WITH THE SEED: THE CARDS: each row of YtimadphjdkjgaaaGreatDoorRows.lean that lists a variable, with what it lists TIED to the program's text (the seventh form; the later family's looks); each row that meets fmt, with fmt's text TOLD by the authors' own Lean function (tested against real Go, not proved from fmt's source: count such statements apart). THE CARD IS WHAT COUNTS. Prove the row's statement (the work); the ties are given (YtimadphjdkjgaaaGreatDoorTie.lean); close each card by the builder's one call (the guide's Derived/Test/ToyasCard.lean, 'card_holds'). Laid BY PROGRAM, IN A SANDBOX (cutbox-door.mjs). By AI agents, Wed Nov 11 2026. No macro, syntax, notation, axiom, sorry.
-/
import Derived.Test.YtimadphjdkjgaaaGreatDoorRows
import GoSem.ClaimSeven
namespace Go.Proofs.YtimadphjdkjgaaaGreatDoor
namespace Rows

/-- THE TIED CARD OF 'transomlaw37.StoryReads'. -/
def storyReadsCard : Claim7 := { stood := { row := storyReadsRow, standIns := [], harness := (true, "98e8e109eae1627a86f8e56d6b7a46ca09f3289e701235a7f48babd360f55c60"), looks := false }, kinds := [], alts := [], laidByText := true, laidKinds := [.data, .pinned], laidTests := true, laidLooks := .later }
def StoryReadsCardSaid : Prop := Claim7.holds Tryz.pinned (.plain (OpenSpec.ofChange storyReadsSpec)) storyReadsCard

/-- THE TIED CARD OF 'transomlaw37.StoryTexts'. -/
def storyTextsCard : Claim7 := { stood := { row := storyTextsRow, standIns := [], harness := (true, "98e8e109eae1627a86f8e56d6b7a46ca09f3289e701235a7f48babd360f55c60"), looks := false }, kinds := [], alts := [], laidByText := true, laidKinds := [.data, .pinned], laidTests := true, laidLooks := .later }
def StoryTextsCardSaid : Prop := Claim7.holds Tryz.pinned (.plain (OpenSpec.ofChange storyTextsSpec)) storyTextsCard

/-- THE TIED CARD OF 'transomlaw37.StoryLines'. -/
def storyLinesCard : Claim7 := { stood := { row := storyLinesRow, standIns := [], harness := (true, "98e8e109eae1627a86f8e56d6b7a46ca09f3289e701235a7f48babd360f55c60"), looks := false }, kinds := [], alts := [], laidByText := true, laidKinds := [.data, .pinned], laidTests := true, laidLooks := .later }
def StoryLinesCardSaid : Prop := Claim7.holds Tryz.pinned (.plain (OpenSpec.ofChange storyLinesSpec)) storyLinesCard

/-- THE SECOND FORM's CARD OF 'transomlaw37.StoryReads'. -/
def storyReadsUptoCard : Claim7 := { stood := { row := storyReadsUptoRow, standIns := [], harness := (true, "98e8e109eae1627a86f8e56d6b7a46ca09f3289e701235a7f48babd360f55c60"), looks := false }, kinds := [], alts := [], laidByText := true, laidKinds := [.data, .pinned], laidTests := true, laidLooks := .later }
def StoryReadsUptoCardSaid : Prop := Claim7.holds Tryz.pinned (.plain (OpenSpec.upto storyReadsSpec)) storyReadsUptoCard

/-- THE SECOND FORM's CARD OF 'transomlaw37.StoryTexts'. -/
def storyTextsUptoCard : Claim7 := { stood := { row := storyTextsUptoRow, standIns := [], harness := (true, "98e8e109eae1627a86f8e56d6b7a46ca09f3289e701235a7f48babd360f55c60"), looks := false }, kinds := [], alts := [], laidByText := true, laidKinds := [.data, .pinned], laidTests := true, laidLooks := .later }
def StoryTextsUptoCardSaid : Prop := Claim7.holds Tryz.pinned (.plain (OpenSpec.upto storyTextsSpec)) storyTextsUptoCard

/-- THE SECOND FORM's CARD OF 'transomlaw37.StoryLines'. -/
def storyLinesUptoCard : Claim7 := { stood := { row := storyLinesUptoRow, standIns := [], harness := (true, "98e8e109eae1627a86f8e56d6b7a46ca09f3289e701235a7f48babd360f55c60"), looks := false }, kinds := [], alts := [], laidByText := true, laidKinds := [.data, .pinned], laidTests := true, laidLooks := .later }
def StoryLinesUptoCardSaid : Prop := Claim7.holds Tryz.pinned (.plain (OpenSpec.upto storyLinesSpec)) storyLinesUptoCard
end Rows
end Go.Proofs.YtimadphjdkjgaaaGreatDoor
