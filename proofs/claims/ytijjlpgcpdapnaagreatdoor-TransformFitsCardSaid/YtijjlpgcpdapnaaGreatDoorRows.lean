/-
  NARROWER THAN 'FOR EVERY INPUT', by the rows' own cells (each row's printed sentence says how): TransformOne: laid · TransformAll: laid · TransformFits: laid.
  DERIVED. THE GIVEN ROWS OF THIS SEAT. 3 by the template 'for every input the law returns true; each argument reads behind the call as it read before'; 0 by the template 'total and deterministic' (their statements: YtijjlpgcpdapnaaGreatDoorTotals.lean).
  GIVEN WITH THE SEED: the statements are not yours to turn. If you find one false, say at which input.
  Laid BY PROGRAM, IN A SANDBOX (cutbox-rows.mjs): the forced cells as the released guide's own fill.sh prints them over the translation b75e5a8ab00eb3d5… (all of the seat's roots in one cut). By AI agents, Wed Nov 11 2026. No macro, syntax, notation, axiom, sorry.
-/
import Derived.Test.YtijjlpgcpdapnaaGreatDoorChecked
import GoSem.Claim
import GoSem.ClaimJoined
import GoSem.ClaimMapViews
import Derived.JoinedTies
import Derived.KernelRfl
namespace Go.Proofs.YtijjlpgcpdapnaaGreatDoor
/- THE CELL 'sum', in the pinned program and in every row, IS THE sha256 OF THE DUMP (.gsa) THAT YtijjlpgcpdapnaaGreatDoorProg.lean LOADS. Nothing in Lean hashes anything: it is a label: what it is worth is what the hold of that sum in a sandbox is worth. -/
noncomputable def Tryz.pinned : Pinned := { name := "ytijjlpgcpdapnaagreatdoor", sum := "b75e5a8ab00eb3d536f4b741672cc17794e100ea9a18d8a687f9c8536b3be60e", checked := Tryz.checked }
namespace Rows
def none {H : Type} : Left H := { results := [], args := [] }

/- WHAT THE LISTED PACKAGE-LEVEL VARIABLES READ AS WHEN THE CALL BEGINS. Each datum BY PROGRAM (the guide's laid-datum.mjs) off the statement by which the dump's own 'gosem.cut.vars' lays the variable. In a bare row this is a premise. The card (YtijjlpgcpdapnaaGreatDoorCards.lean) ties it to the program's text. -/
def laid_errors_errorType {H : Type} : DataW H := .iface "internal/reflectlite.rtype" (.agg [.ptr (.lit (.string [101, 114, 114, 111, 114]))])

/-- 'transomlaw11.TransformOne': WHATEVER THE INPUT: true; the input reads as it did. -/
def transformOneSpec : ChangeSpec := { name := "transformOne", fn := fun _ => fun
  | [d1, d2, d3] => { results := [.lit (.bool true)], args := [d1, d2, d3] }
  | _ => none }
def transformOneRow : OpenClaim := { program := "ytijjlpgcpdapnaagreatdoor", sum := "b75e5a8ab00eb3d536f4b741672cc17794e100ea9a18d8a687f9c8536b3be60e", func := "transom/transomlaw11.TransformOne", spec := "transformOne", inPlace := ["math.Float64frombits", "internal/reflectlite.ValueOf", "(internal/reflectlite.Value).Type", "(internal/reflectlite.Value).IsNil", "internal/reflectlite.TypeOf", "(internal/reflectlite.Value).Elem", "(internal/reflectlite.Value).Set", "math.Float64bits", "math.archTrunc"], unfollowed := true, recurses := true, named := ["errors.errorType"], apart := false, laid := [("errors.errorType", laid_errors_errorType)] }
def TransformOneSaid : Prop := transformOneRow.holds Tryz.pinned (OpenSpec.ofChange transformOneSpec)

/-- ITS FALSE NEIGHBOUR: 'it returns false'. Refute it at one input. -/
def transformOneWrong : ChangeSpec := { name := "transformOne", fn := fun _ => fun
  | [d1, d2, d3] => { results := [.lit (.bool false)], args := [d1, d2, d3] }
  | _ => none }
def TransformOneWrongFalsely : Prop := transformOneRow.holds Tryz.pinned (OpenSpec.ofChange transformOneWrong)

/-- 'transomlaw11.TransformAll': WHATEVER THE INPUT: true; the input reads as it did. -/
def transformAllSpec : ChangeSpec := { name := "transformAll", fn := fun _ => fun
  | [d1, d2, d3] => { results := [.lit (.bool true)], args := [d1, d2, d3] }
  | _ => none }
def transformAllRow : OpenClaim := { program := "ytijjlpgcpdapnaagreatdoor", sum := "b75e5a8ab00eb3d536f4b741672cc17794e100ea9a18d8a687f9c8536b3be60e", func := "transom/transomlaw11.TransformAll", spec := "transformAll", inPlace := ["math.Float64frombits", "internal/reflectlite.ValueOf", "(internal/reflectlite.Value).Type", "(internal/reflectlite.Value).IsNil", "internal/reflectlite.TypeOf", "(internal/reflectlite.Value).Elem", "(internal/reflectlite.Value).Set", "math.Float64bits", "math.archTrunc"], unfollowed := true, recurses := true, named := ["errors.errorType"], apart := false, laid := [("errors.errorType", laid_errors_errorType)] }
def TransformAllSaid : Prop := transformAllRow.holds Tryz.pinned (OpenSpec.ofChange transformAllSpec)

/-- ITS FALSE NEIGHBOUR: 'it returns false'. Refute it at one input. -/
def transformAllWrong : ChangeSpec := { name := "transformAll", fn := fun _ => fun
  | [d1, d2, d3] => { results := [.lit (.bool false)], args := [d1, d2, d3] }
  | _ => none }
def TransformAllWrongFalsely : Prop := transformAllRow.holds Tryz.pinned (OpenSpec.ofChange transformAllWrong)

/-- 'transomlaw11.TransformFits': WHATEVER THE INPUT: true; the input reads as it did. -/
def transformFitsSpec : ChangeSpec := { name := "transformFits", fn := fun _ => fun
  | [d1, d2, d3] => { results := [.lit (.bool true)], args := [d1, d2, d3] }
  | _ => none }
def transformFitsRow : OpenClaim := { program := "ytijjlpgcpdapnaagreatdoor", sum := "b75e5a8ab00eb3d536f4b741672cc17794e100ea9a18d8a687f9c8536b3be60e", func := "transom/transomlaw11.TransformFits", spec := "transformFits", inPlace := ["math.Float64frombits", "internal/reflectlite.ValueOf", "(internal/reflectlite.Value).Type", "(internal/reflectlite.Value).IsNil", "internal/reflectlite.TypeOf", "(internal/reflectlite.Value).Elem", "(internal/reflectlite.Value).Set", "math.Float64bits", "math.archTrunc"], unfollowed := true, recurses := true, named := ["errors.errorType"], apart := false, laid := [("errors.errorType", laid_errors_errorType)] }
def TransformFitsSaid : Prop := transformFitsRow.holds Tryz.pinned (OpenSpec.ofChange transformFitsSpec)

/-- ITS FALSE NEIGHBOUR: 'it returns false'. Refute it at one input. -/
def transformFitsWrong : ChangeSpec := { name := "transformFits", fn := fun _ => fun
  | [d1, d2, d3] => { results := [.lit (.bool false)], args := [d1, d2, d3] }
  | _ => none }
def TransformFitsWrongFalsely : Prop := transformFitsRow.holds Tryz.pinned (OpenSpec.ofChange transformFitsWrong)

/- THE SECOND FORM. 'bulk': how many values and letters a reading holds, each counted each time it is reached (what is shared counts as often as it is met; a slice's spare places count too). A statement '..UptoSaid' is the law's where the arguments, and the package variables that the reading takes, are together of bulk at most 1048576: NARROWER than '..Said'. Prove '..Said' where nothing that the law and all that it calls make is longer than what came in: it says more and counts as full. Else prove '..UptoSaid'. A law counts once. -/
mutual
def uptoBulk {H : Type} : DataW H → Nat
  | .lit (.string bytes) => bytes.length + 1
  | .lit _ => 1
  | .nil => 1
  | .ptr d => uptoBulk d + 1
  | .slice elems spare => uptoBulkAll elems + uptoBulkAll spare + 1
  | .agg parts => uptoBulkAll parts + 1
  | .iface _ d => uptoBulk d + 1
  | .map entries => uptoBulkEntries entries + 1
  | .held _ => 1
def uptoBulkAll {H : Type} : List (DataW H) → Nat
  | [] => 0
  | d :: r => uptoBulk d + uptoBulkAll r
def uptoBulkEntries {H : Type} : List (Lit × DataW H) → Nat
  | [] => 0
  | x :: r => uptoBulkEntry x + uptoBulkEntries r
def uptoBulkEntry {H : Type} : Lit × DataW H → Nat
  | (.string bytes, d) => bytes.length + uptoBulk d + 1
  | (_, d) => uptoBulk d + 1
 end
def uptoSmall : (H : Type) → List (DataW H) → Bool := fun _ ds => decide (uptoBulkAll ds ≤ 1048576)
def OpenSpec.upto (s : _root_.Go.ChangeSpec) : _root_.Go.OpenSpec := { _root_.Go.OpenSpec.ofChange s with cond := some uptoSmall }

/-- 'transomlaw11.TransformOne', WHERE WHAT IT READS IS OF BULK AT MOST 1048576: true; the input reads as it did. -/
def transformOneUptoRow : OpenClaim := { program := "ytijjlpgcpdapnaagreatdoor", sum := "b75e5a8ab00eb3d536f4b741672cc17794e100ea9a18d8a687f9c8536b3be60e", func := "transom/transomlaw11.TransformOne", spec := "transformOne", inPlace := ["math.Float64frombits", "internal/reflectlite.ValueOf", "(internal/reflectlite.Value).Type", "(internal/reflectlite.Value).IsNil", "internal/reflectlite.TypeOf", "(internal/reflectlite.Value).Elem", "(internal/reflectlite.Value).Set", "math.Float64bits", "math.archTrunc"], unfollowed := true, recurses := true, named := ["errors.errorType"], apart := false, laid := [("errors.errorType", laid_errors_errorType)], narrowed := true }
def TransformOneUptoSaid : Prop := transformOneUptoRow.holds Tryz.pinned (OpenSpec.upto transformOneSpec)

/-- 'transomlaw11.TransformAll', WHERE WHAT IT READS IS OF BULK AT MOST 1048576: true; the input reads as it did. -/
def transformAllUptoRow : OpenClaim := { program := "ytijjlpgcpdapnaagreatdoor", sum := "b75e5a8ab00eb3d536f4b741672cc17794e100ea9a18d8a687f9c8536b3be60e", func := "transom/transomlaw11.TransformAll", spec := "transformAll", inPlace := ["math.Float64frombits", "internal/reflectlite.ValueOf", "(internal/reflectlite.Value).Type", "(internal/reflectlite.Value).IsNil", "internal/reflectlite.TypeOf", "(internal/reflectlite.Value).Elem", "(internal/reflectlite.Value).Set", "math.Float64bits", "math.archTrunc"], unfollowed := true, recurses := true, named := ["errors.errorType"], apart := false, laid := [("errors.errorType", laid_errors_errorType)], narrowed := true }
def TransformAllUptoSaid : Prop := transformAllUptoRow.holds Tryz.pinned (OpenSpec.upto transformAllSpec)

/-- 'transomlaw11.TransformFits', WHERE WHAT IT READS IS OF BULK AT MOST 1048576: true; the input reads as it did. -/
def transformFitsUptoRow : OpenClaim := { program := "ytijjlpgcpdapnaagreatdoor", sum := "b75e5a8ab00eb3d536f4b741672cc17794e100ea9a18d8a687f9c8536b3be60e", func := "transom/transomlaw11.TransformFits", spec := "transformFits", inPlace := ["math.Float64frombits", "internal/reflectlite.ValueOf", "(internal/reflectlite.Value).Type", "(internal/reflectlite.Value).IsNil", "internal/reflectlite.TypeOf", "(internal/reflectlite.Value).Elem", "(internal/reflectlite.Value).Set", "math.Float64bits", "math.archTrunc"], unfollowed := true, recurses := true, named := ["errors.errorType"], apart := false, laid := [("errors.errorType", laid_errors_errorType)], narrowed := true }
def TransformFitsUptoSaid : Prop := transformFitsUptoRow.holds Tryz.pinned (OpenSpec.upto transformFitsSpec)

end Rows
end Go.Proofs.YtijjlpgcpdapnaaGreatDoor
