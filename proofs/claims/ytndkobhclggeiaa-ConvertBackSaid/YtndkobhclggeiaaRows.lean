/-
  No cell of these rows narrows 'for every input' (looked for: loops, veiled, ifaces, maps, wideKeys, modest, calm, conditions, laid).
  DERIVED. THE GIVEN ROWS OF THIS SEAT. 4 by the template 'for every input the law returns true; each argument reads behind the call as it read before'; 0 by the template 'total and deterministic' (their statements: YtndkobhclggeiaaTotals.lean).
  GIVEN WITH THE SEED: the statements are not yours to turn. If you find one false, say at which input.
  Laid BY PROGRAM, IN A SANDBOX (cutbox-rows.mjs): the forced cells as the released guide's own fill.sh prints them over the translation f659ece149f34372… (all of the seat's roots in one cut). By AI agents, Wed Nov 11 2026. No macro, syntax, notation, axiom, sorry.
-/
import Derived.Test.YtndkobhclggeiaaChecked
import GoSem.Claim
import GoSem.ClaimJoined
import GoSem.ClaimMapViews
import Derived.JoinedTies
import Derived.KernelRfl
namespace Go.Proofs.Ytndkobhclggeiaa
/- THE CELL 'sum', in the pinned program and in every row, IS THE sha256 OF THE DUMP (.gsa) THAT YtndkobhclggeiaaProg.lean LOADS. Nothing in Lean hashes anything: it is a label: what it is worth is what the hold of that sum in a sandbox is worth. -/
noncomputable def Try.pinned : Pinned := { name := "ytndkobhclggeiaa", sum := "f659ece149f3437276a35019a3399b5a28de1e0ed8db456f2e34b342d1675605", checked := Try.checked }
namespace Rows
def none {H : Type} : Left H := { results := [], args := [] }

/-- 'transomlaw07.ConvertTos': WHATEVER THE INPUT: true; the input reads as it did. -/
def convertTosSpec : ChangeSpec := { name := "convertTos", fn := fun _ => fun
  | [d1, d2] => { results := [.lit (.bool true)], args := [d1, d2] }
  | _ => none }
def convertTosRow : OpenClaim := { program := "ytndkobhclggeiaa", sum := "f659ece149f3437276a35019a3399b5a28de1e0ed8db456f2e34b342d1675605", func := "transom/transomlaw07.ConvertTos", spec := "convertTos", inPlace := ["math.Float64frombits", "math.Float64bits", "math.archTrunc"], unfollowed := true, recurses := true, apart := false }
def ConvertTosSaid : Prop := convertTosRow.holds Try.pinned (OpenSpec.ofChange convertTosSpec)

/-- ITS FALSE NEIGHBOUR: 'it returns false'. Refute it at one input. -/
def convertTosWrong : ChangeSpec := { name := "convertTos", fn := fun _ => fun
  | [d1, d2] => { results := [.lit (.bool false)], args := [d1, d2] }
  | _ => none }
def ConvertTosWrongFalsely : Prop := convertTosRow.holds Try.pinned (OpenSpec.ofChange convertTosWrong)

/-- 'transomlaw07.ConvertDigits': WHATEVER THE INPUT: true; the input reads as it did. -/
def convertDigitsSpec : ChangeSpec := { name := "convertDigits", fn := fun _ => fun
  | [d1, d2] => { results := [.lit (.bool true)], args := [d1, d2] }
  | _ => none }
def convertDigitsRow : OpenClaim := { program := "ytndkobhclggeiaa", sum := "f659ece149f3437276a35019a3399b5a28de1e0ed8db456f2e34b342d1675605", func := "transom/transomlaw07.ConvertDigits", spec := "convertDigits", inPlace := ["math.Float64frombits", "math.Float64bits", "math.archTrunc"], unfollowed := true, recurses := true, apart := false }
def ConvertDigitsSaid : Prop := convertDigitsRow.holds Try.pinned (OpenSpec.ofChange convertDigitsSpec)

/-- ITS FALSE NEIGHBOUR: 'it returns false'. Refute it at one input. -/
def convertDigitsWrong : ChangeSpec := { name := "convertDigits", fn := fun _ => fun
  | [d1, d2] => { results := [.lit (.bool false)], args := [d1, d2] }
  | _ => none }
def ConvertDigitsWrongFalsely : Prop := convertDigitsRow.holds Try.pinned (OpenSpec.ofChange convertDigitsWrong)

/-- 'transomlaw07.ConvertFits': WHATEVER THE INPUT: true; the input reads as it did. -/
def convertFitsSpec : ChangeSpec := { name := "convertFits", fn := fun _ => fun
  | [d1, d2] => { results := [.lit (.bool true)], args := [d1, d2] }
  | _ => none }
def convertFitsRow : OpenClaim := { program := "ytndkobhclggeiaa", sum := "f659ece149f3437276a35019a3399b5a28de1e0ed8db456f2e34b342d1675605", func := "transom/transomlaw07.ConvertFits", spec := "convertFits", inPlace := ["math.Float64frombits", "math.Float64bits", "math.archTrunc"], unfollowed := true, recurses := true, apart := false }
def ConvertFitsSaid : Prop := convertFitsRow.holds Try.pinned (OpenSpec.ofChange convertFitsSpec)

/-- ITS FALSE NEIGHBOUR: 'it returns false'. Refute it at one input. -/
def convertFitsWrong : ChangeSpec := { name := "convertFits", fn := fun _ => fun
  | [d1, d2] => { results := [.lit (.bool false)], args := [d1, d2] }
  | _ => none }
def ConvertFitsWrongFalsely : Prop := convertFitsRow.holds Try.pinned (OpenSpec.ofChange convertFitsWrong)

/-- 'transomlaw07.ConvertBack': WHATEVER THE INPUT: true; the input reads as it did. -/
def convertBackSpec : ChangeSpec := { name := "convertBack", fn := fun _ => fun
  | [d1, d2] => { results := [.lit (.bool true)], args := [d1, d2] }
  | _ => none }
def convertBackRow : OpenClaim := { program := "ytndkobhclggeiaa", sum := "f659ece149f3437276a35019a3399b5a28de1e0ed8db456f2e34b342d1675605", func := "transom/transomlaw07.ConvertBack", spec := "convertBack", inPlace := ["math.Float64frombits", "math.Float64bits", "math.archTrunc"], unfollowed := true, recurses := true, apart := false }
def ConvertBackSaid : Prop := convertBackRow.holds Try.pinned (OpenSpec.ofChange convertBackSpec)

/-- ITS FALSE NEIGHBOUR: 'it returns false'. Refute it at one input. -/
def convertBackWrong : ChangeSpec := { name := "convertBack", fn := fun _ => fun
  | [d1, d2] => { results := [.lit (.bool false)], args := [d1, d2] }
  | _ => none }
def ConvertBackWrongFalsely : Prop := convertBackRow.holds Try.pinned (OpenSpec.ofChange convertBackWrong)

/- THE SECOND FORM. 'bulk': how many values and letters a reading holds, each counted each time it is reached (what is shared counts as often as it is met; a slice's spare places count too). A statement '..UptoSaid' is the law's where the arguments, and the package variables that the reading takes, are together of bulk at most 1048576: NARROWER than '..Said'. Prove '..Said' where nothing that the law and all that it calls make is longer than what came in: it says more and counts as full. Else prove '..UptoSaid'. A law counts once. -/
mutual
def uptoBulk {H : Type} : DataW H → Nat
  | .lit (.string bytes) => bytes.length + 1
  | .lit _ => 1
  | .nil => 1
  | .ptr d => uptoBulk d + 1
  | .slice elems spare => uptoBulkAll elems + uptoBulkAll spare + 1
  | .agg parts => uptoBulkAll parts + 1
  | .iface _ d => uptoBulk d + 1
  | .map entries => uptoBulkEntries entries + 1
  | .held _ => 1
def uptoBulkAll {H : Type} : List (DataW H) → Nat
  | [] => 0
  | d :: r => uptoBulk d + uptoBulkAll r
def uptoBulkEntries {H : Type} : List (Lit × DataW H) → Nat
  | [] => 0
  | x :: r => uptoBulkEntry x + uptoBulkEntries r
def uptoBulkEntry {H : Type} : Lit × DataW H → Nat
  | (.string bytes, d) => bytes.length + uptoBulk d + 1
  | (_, d) => uptoBulk d + 1
 end
def uptoSmall : (H : Type) → List (DataW H) → Bool := fun _ ds => decide (uptoBulkAll ds ≤ 1048576)
def OpenSpec.upto (s : _root_.Go.ChangeSpec) : _root_.Go.OpenSpec := { _root_.Go.OpenSpec.ofChange s with cond := some uptoSmall }

/-- 'transomlaw07.ConvertTos', WHERE WHAT IT READS IS OF BULK AT MOST 1048576: true; the input reads as it did. -/
def convertTosUptoRow : OpenClaim := { program := "ytndkobhclggeiaa", sum := "f659ece149f3437276a35019a3399b5a28de1e0ed8db456f2e34b342d1675605", func := "transom/transomlaw07.ConvertTos", spec := "convertTos", inPlace := ["math.Float64frombits", "math.Float64bits", "math.archTrunc"], unfollowed := true, recurses := true, apart := false, narrowed := true }
def ConvertTosUptoSaid : Prop := convertTosUptoRow.holds Try.pinned (OpenSpec.upto convertTosSpec)

/-- 'transomlaw07.ConvertDigits', WHERE WHAT IT READS IS OF BULK AT MOST 1048576: true; the input reads as it did. -/
def convertDigitsUptoRow : OpenClaim := { program := "ytndkobhclggeiaa", sum := "f659ece149f3437276a35019a3399b5a28de1e0ed8db456f2e34b342d1675605", func := "transom/transomlaw07.ConvertDigits", spec := "convertDigits", inPlace := ["math.Float64frombits", "math.Float64bits", "math.archTrunc"], unfollowed := true, recurses := true, apart := false, narrowed := true }
def ConvertDigitsUptoSaid : Prop := convertDigitsUptoRow.holds Try.pinned (OpenSpec.upto convertDigitsSpec)

/-- 'transomlaw07.ConvertFits', WHERE WHAT IT READS IS OF BULK AT MOST 1048576: true; the input reads as it did. -/
def convertFitsUptoRow : OpenClaim := { program := "ytndkobhclggeiaa", sum := "f659ece149f3437276a35019a3399b5a28de1e0ed8db456f2e34b342d1675605", func := "transom/transomlaw07.ConvertFits", spec := "convertFits", inPlace := ["math.Float64frombits", "math.Float64bits", "math.archTrunc"], unfollowed := true, recurses := true, apart := false, narrowed := true }
def ConvertFitsUptoSaid : Prop := convertFitsUptoRow.holds Try.pinned (OpenSpec.upto convertFitsSpec)

/-- 'transomlaw07.ConvertBack', WHERE WHAT IT READS IS OF BULK AT MOST 1048576: true; the input reads as it did. -/
def convertBackUptoRow : OpenClaim := { program := "ytndkobhclggeiaa", sum := "f659ece149f3437276a35019a3399b5a28de1e0ed8db456f2e34b342d1675605", func := "transom/transomlaw07.ConvertBack", spec := "convertBack", inPlace := ["math.Float64frombits", "math.Float64bits", "math.archTrunc"], unfollowed := true, recurses := true, apart := false, narrowed := true }
def ConvertBackUptoSaid : Prop := convertBackUptoRow.holds Try.pinned (OpenSpec.upto convertBackSpec)

end Rows
end Go.Proofs.Ytndkobhclggeiaa
