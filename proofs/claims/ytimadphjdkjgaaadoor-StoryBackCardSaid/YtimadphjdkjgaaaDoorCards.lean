/-
  DERIVED. GIVEN WITH THE SEED: THE CARDS: each row of YtimadphjdkjgaaaDoorRows.lean that lists a variable, with what it lists TIED to the program's text (the seventh form; the later family's looks); each row that meets fmt, with fmt's text TOLD by the authors' own Lean function (tested against real Go, not proved from fmt's source: count such statements apart). THE CARD IS WHAT COUNTS. Prove the row's statement (the work); the ties are given (YtimadphjdkjgaaaDoorTie.lean); close each card by the builder's one call (the guide's Derived/Test/ToyasCard.lean, 'card_holds'). Laid BY PROGRAM, IN A SANDBOX (cutbox-door.mjs). By AI agents, Wed Nov 11 2026. No macro, syntax, notation, axiom, sorry.
-/
import Derived.Test.YtimadphjdkjgaaaDoorRows
import GoSem.ClaimSeven
namespace Go.Proofs.YtimadphjdkjgaaaDoor
namespace Rows

/-- THE TIED CARD OF 'transomlaw37.StoryBack'. -/
def storyBackCard : Claim7 := { stood := { row := storyBackRow, standIns := [], harness := (true, "f40b7575e4e4757f7ad47ae9003d9d75233dfe9c20ae130c02f142b096a365fa"), looks := false }, kinds := [], alts := [], laidByText := true, laidKinds := [.data, .pinned], laidTests := true, laidLooks := .later }
def StoryBackCardSaid : Prop := Claim7.holds Tryd.pinned (.plain (OpenSpec.ofChange storyBackSpec)) storyBackCard

/-- THE TIED CARD OF 'transomlaw37.StoryJoins'. -/
def storyJoinsCard : Claim7 := { stood := { row := storyJoinsRow, standIns := [], harness := (true, "f40b7575e4e4757f7ad47ae9003d9d75233dfe9c20ae130c02f142b096a365fa"), looks := false }, kinds := [], alts := [], laidByText := true, laidKinds := [.data, .pinned], laidTests := true, laidLooks := .later }
def StoryJoinsCardSaid : Prop := Claim7.holds Tryd.pinned (.plain (OpenSpec.ofChange storyJoinsSpec)) storyJoinsCard

/-- THE SECOND FORM's CARD OF 'transomlaw37.StoryBack'. -/
def storyBackUptoCard : Claim7 := { stood := { row := storyBackUptoRow, standIns := [], harness := (true, "f40b7575e4e4757f7ad47ae9003d9d75233dfe9c20ae130c02f142b096a365fa"), looks := false }, kinds := [], alts := [], laidByText := true, laidKinds := [.data, .pinned], laidTests := true, laidLooks := .later }
def StoryBackUptoCardSaid : Prop := Claim7.holds Tryd.pinned (.plain (OpenSpec.upto storyBackSpec)) storyBackUptoCard

/-- THE SECOND FORM's CARD OF 'transomlaw37.StoryJoins'. -/
def storyJoinsUptoCard : Claim7 := { stood := { row := storyJoinsUptoRow, standIns := [], harness := (true, "f40b7575e4e4757f7ad47ae9003d9d75233dfe9c20ae130c02f142b096a365fa"), looks := false }, kinds := [], alts := [], laidByText := true, laidKinds := [.data, .pinned], laidTests := true, laidLooks := .later }
def StoryJoinsUptoCardSaid : Prop := Claim7.holds Tryd.pinned (.plain (OpenSpec.upto storyJoinsSpec)) storyJoinsUptoCard
end Rows
end Go.Proofs.YtimadphjdkjgaaaDoor
