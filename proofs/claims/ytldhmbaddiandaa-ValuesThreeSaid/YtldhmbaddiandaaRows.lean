/-
  No cell of these rows narrows 'for every input' (looked for: loops, veiled, ifaces, maps, wideKeys, modest, calm, conditions, laid).
  DERIVED. THE GIVEN ROWS OF THIS SEAT. 4 by the template 'for every input the law returns true; each argument reads behind the call as it read before'; 0 by the template 'total and deterministic' (their statements: YtldhmbaddiandaaTotals.lean).
  GIVEN WITH THE SEED: the statements are not yours to turn. If you find one false, say at which input.
  Laid BY PROGRAM, IN A SANDBOX (cutbox-rows.mjs): the forced cells as the released guide's own fill.sh prints them over the translation ae3f394b2b2eec8c… (all of the seat's roots in one cut). By AI agents, Wed Nov 11 2026. No macro, syntax, notation, axiom, sorry.
-/
import Derived.Test.YtldhmbaddiandaaChecked
import GoSem.Claim
import GoSem.ClaimJoined
import GoSem.ClaimMapViews
import Derived.JoinedTies
import Derived.KernelRfl
namespace Go.Proofs.Ytldhmbaddiandaa
/- THE CELL 'sum', in the pinned program and in every row, IS THE sha256 OF THE DUMP (.gsa) THAT YtldhmbaddiandaaProg.lean LOADS. Nothing in Lean hashes anything: it is a label: what it is worth is what the hold of that sum in a sandbox is worth. -/
noncomputable def Try.pinned : Pinned := { name := "ytldhmbaddiandaa", sum := "ae3f394b2b2eec8cb30ce57362ef1df6d83bbdc60c421ab192096e6af9f28d44", checked := Try.checked }
namespace Rows
def none {H : Type} : Left H := { results := [], args := [] }

/-- 'transomlaw04.ValuesOne': WHATEVER THE INPUT: true; the input reads as it did. -/
def valuesOneSpec : ChangeSpec := { name := "valuesOne", fn := fun _ => fun
  | [d] => { results := [.lit (.bool true)], args := [d] }
  | _ => none }
def valuesOneRow : OpenClaim := { program := "ytldhmbaddiandaa", sum := "ae3f394b2b2eec8cb30ce57362ef1df6d83bbdc60c421ab192096e6af9f28d44", func := "transom/transomlaw04.ValuesOne", spec := "valuesOne", inPlace := ["math.Float64frombits", "internal/bytealg.abigen_runtime_cmpstring"], apart := false }
def ValuesOneSaid : Prop := valuesOneRow.holds Try.pinned (OpenSpec.ofChange valuesOneSpec)

/-- ITS FALSE NEIGHBOUR: 'it returns false'. Refute it at one input. -/
def valuesOneWrong : ChangeSpec := { name := "valuesOne", fn := fun _ => fun
  | [d] => { results := [.lit (.bool false)], args := [d] }
  | _ => none }
def ValuesOneWrongFalsely : Prop := valuesOneRow.holds Try.pinned (OpenSpec.ofChange valuesOneWrong)

/-- 'transomlaw04.ValuesKinds': WHATEVER THE INPUT: true; the input reads as it did. -/
def valuesKindsSpec : ChangeSpec := { name := "valuesKinds", fn := fun _ => fun
  | [d1, d2] => { results := [.lit (.bool true)], args := [d1, d2] }
  | _ => none }
def valuesKindsRow : OpenClaim := { program := "ytldhmbaddiandaa", sum := "ae3f394b2b2eec8cb30ce57362ef1df6d83bbdc60c421ab192096e6af9f28d44", func := "transom/transomlaw04.ValuesKinds", spec := "valuesKinds", inPlace := ["math.Float64frombits", "internal/bytealg.abigen_runtime_cmpstring"], apart := false }
def ValuesKindsSaid : Prop := valuesKindsRow.holds Try.pinned (OpenSpec.ofChange valuesKindsSpec)

/-- ITS FALSE NEIGHBOUR: 'it returns false'. Refute it at one input. -/
def valuesKindsWrong : ChangeSpec := { name := "valuesKinds", fn := fun _ => fun
  | [d1, d2] => { results := [.lit (.bool false)], args := [d1, d2] }
  | _ => none }
def ValuesKindsWrongFalsely : Prop := valuesKindsRow.holds Try.pinned (OpenSpec.ofChange valuesKindsWrong)

/-- 'transomlaw04.ValuesTwo': WHATEVER THE INPUT: true; the input reads as it did. -/
def valuesTwoSpec : ChangeSpec := { name := "valuesTwo", fn := fun _ => fun
  | [d1, d2] => { results := [.lit (.bool true)], args := [d1, d2] }
  | _ => none }
def valuesTwoRow : OpenClaim := { program := "ytldhmbaddiandaa", sum := "ae3f394b2b2eec8cb30ce57362ef1df6d83bbdc60c421ab192096e6af9f28d44", func := "transom/transomlaw04.ValuesTwo", spec := "valuesTwo", inPlace := ["math.Float64frombits", "internal/bytealg.abigen_runtime_cmpstring"], apart := false }
def ValuesTwoSaid : Prop := valuesTwoRow.holds Try.pinned (OpenSpec.ofChange valuesTwoSpec)

/-- ITS FALSE NEIGHBOUR: 'it returns false'. Refute it at one input. -/
def valuesTwoWrong : ChangeSpec := { name := "valuesTwo", fn := fun _ => fun
  | [d1, d2] => { results := [.lit (.bool false)], args := [d1, d2] }
  | _ => none }
def ValuesTwoWrongFalsely : Prop := valuesTwoRow.holds Try.pinned (OpenSpec.ofChange valuesTwoWrong)

/-- 'transomlaw04.ValuesThree': WHATEVER THE INPUT: true; the input reads as it did. -/
def valuesThreeSpec : ChangeSpec := { name := "valuesThree", fn := fun _ => fun
  | [d1, d2, d3] => { results := [.lit (.bool true)], args := [d1, d2, d3] }
  | _ => none }
def valuesThreeRow : OpenClaim := { program := "ytldhmbaddiandaa", sum := "ae3f394b2b2eec8cb30ce57362ef1df6d83bbdc60c421ab192096e6af9f28d44", func := "transom/transomlaw04.ValuesThree", spec := "valuesThree", inPlace := ["math.Float64frombits", "internal/bytealg.abigen_runtime_cmpstring"], apart := false }
def ValuesThreeSaid : Prop := valuesThreeRow.holds Try.pinned (OpenSpec.ofChange valuesThreeSpec)

/-- ITS FALSE NEIGHBOUR: 'it returns false'. Refute it at one input. -/
def valuesThreeWrong : ChangeSpec := { name := "valuesThree", fn := fun _ => fun
  | [d1, d2, d3] => { results := [.lit (.bool false)], args := [d1, d2, d3] }
  | _ => none }
def ValuesThreeWrongFalsely : Prop := valuesThreeRow.holds Try.pinned (OpenSpec.ofChange valuesThreeWrong)

/- THE SECOND FORM. 'bulk': how many values and letters a reading holds, each counted each time it is reached (what is shared counts as often as it is met; a slice's spare places count too). A statement '..UptoSaid' is the law's where the arguments, and the package variables that the reading takes, are together of bulk at most 1048576: NARROWER than '..Said'. Prove '..Said' where nothing that the law and all that it calls make is longer than what came in: it says more and counts as full. Else prove '..UptoSaid'. A law counts once. -/
mutual
def uptoBulk {H : Type} : DataW H → Nat
  | .lit (.string bytes) => bytes.length + 1
  | .lit _ => 1
  | .nil => 1
  | .ptr d => uptoBulk d + 1
  | .slice elems spare => uptoBulkAll elems + uptoBulkAll spare + 1
  | .agg parts => uptoBulkAll parts + 1
  | .iface _ d => uptoBulk d + 1
  | .map entries => uptoBulkEntries entries + 1
  | .held _ => 1
def uptoBulkAll {H : Type} : List (DataW H) → Nat
  | [] => 0
  | d :: r => uptoBulk d + uptoBulkAll r
def uptoBulkEntries {H : Type} : List (Lit × DataW H) → Nat
  | [] => 0
  | x :: r => uptoBulkEntry x + uptoBulkEntries r
def uptoBulkEntry {H : Type} : Lit × DataW H → Nat
  | (.string bytes, d) => bytes.length + uptoBulk d + 1
  | (_, d) => uptoBulk d + 1
 end
def uptoSmall : (H : Type) → List (DataW H) → Bool := fun _ ds => decide (uptoBulkAll ds ≤ 1048576)
def OpenSpec.upto (s : _root_.Go.ChangeSpec) : _root_.Go.OpenSpec := { _root_.Go.OpenSpec.ofChange s with cond := some uptoSmall }

/-- 'transomlaw04.ValuesOne', WHERE WHAT IT READS IS OF BULK AT MOST 1048576: true; the input reads as it did. -/
def valuesOneUptoRow : OpenClaim := { program := "ytldhmbaddiandaa", sum := "ae3f394b2b2eec8cb30ce57362ef1df6d83bbdc60c421ab192096e6af9f28d44", func := "transom/transomlaw04.ValuesOne", spec := "valuesOne", inPlace := ["math.Float64frombits", "internal/bytealg.abigen_runtime_cmpstring"], apart := false, narrowed := true }
def ValuesOneUptoSaid : Prop := valuesOneUptoRow.holds Try.pinned (OpenSpec.upto valuesOneSpec)

/-- 'transomlaw04.ValuesKinds', WHERE WHAT IT READS IS OF BULK AT MOST 1048576: true; the input reads as it did. -/
def valuesKindsUptoRow : OpenClaim := { program := "ytldhmbaddiandaa", sum := "ae3f394b2b2eec8cb30ce57362ef1df6d83bbdc60c421ab192096e6af9f28d44", func := "transom/transomlaw04.ValuesKinds", spec := "valuesKinds", inPlace := ["math.Float64frombits", "internal/bytealg.abigen_runtime_cmpstring"], apart := false, narrowed := true }
def ValuesKindsUptoSaid : Prop := valuesKindsUptoRow.holds Try.pinned (OpenSpec.upto valuesKindsSpec)

/-- 'transomlaw04.ValuesTwo', WHERE WHAT IT READS IS OF BULK AT MOST 1048576: true; the input reads as it did. -/
def valuesTwoUptoRow : OpenClaim := { program := "ytldhmbaddiandaa", sum := "ae3f394b2b2eec8cb30ce57362ef1df6d83bbdc60c421ab192096e6af9f28d44", func := "transom/transomlaw04.ValuesTwo", spec := "valuesTwo", inPlace := ["math.Float64frombits", "internal/bytealg.abigen_runtime_cmpstring"], apart := false, narrowed := true }
def ValuesTwoUptoSaid : Prop := valuesTwoUptoRow.holds Try.pinned (OpenSpec.upto valuesTwoSpec)

/-- 'transomlaw04.ValuesThree', WHERE WHAT IT READS IS OF BULK AT MOST 1048576: true; the input reads as it did. -/
def valuesThreeUptoRow : OpenClaim := { program := "ytldhmbaddiandaa", sum := "ae3f394b2b2eec8cb30ce57362ef1df6d83bbdc60c421ab192096e6af9f28d44", func := "transom/transomlaw04.ValuesThree", spec := "valuesThree", inPlace := ["math.Float64frombits", "internal/bytealg.abigen_runtime_cmpstring"], apart := false, narrowed := true }
def ValuesThreeUptoSaid : Prop := valuesThreeUptoRow.holds Try.pinned (OpenSpec.upto valuesThreeSpec)

end Rows
end Go.Proofs.Ytldhmbaddiandaa
