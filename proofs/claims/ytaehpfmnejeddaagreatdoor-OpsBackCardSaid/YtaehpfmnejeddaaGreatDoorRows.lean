/-
  NARROWER THAN 'FOR EVERY INPUT', by the rows' own cells (each row's printed sentence says how): OpsChanges: laid · OpsPuts: laid · OpsReads: laid · OpsBack: laid · OpsTwo: laid.
  DERIVED. THE GIVEN ROWS OF THIS SEAT. 5 by the template 'for every input the law returns true; each argument reads behind the call as it read before'; 0 by the template 'total and deterministic' (their statements: YtaehpfmnejeddaaGreatDoorTotals.lean).
  GIVEN WITH THE SEED: the statements are not yours to turn. If you find one false, say at which input.
  Laid BY PROGRAM, IN A SANDBOX (cutbox-rows.mjs): the forced cells as the released guide's own fill.sh prints them over the translation 1ec44d0206d05129… (all of the seat's roots in one cut). By AI agents, Wed Nov 11 2026. No macro, syntax, notation, axiom, sorry.
-/
import Derived.Test.YtaehpfmnejeddaaGreatDoorChecked
import GoSem.Claim
import GoSem.ClaimJoined
import GoSem.ClaimMapViews
import Derived.JoinedTies
import Derived.KernelRfl
namespace Go.Proofs.YtaehpfmnejeddaaGreatDoor
/- THE CELL 'sum', in the pinned program and in every row, IS THE sha256 OF THE DUMP (.gsa) THAT YtaehpfmnejeddaaGreatDoorProg.lean LOADS. Nothing in Lean hashes anything: it is a label: what it is worth is what the hold of that sum in a sandbox is worth. -/
noncomputable def Tryz.pinned : Pinned := { name := "ytaehpfmnejeddaagreatdoor", sum := "1ec44d0206d051295d5c58ddc344c82d2333554b15a2da33fa20e7fd00081af4", checked := Tryz.checked }
namespace Rows
def none {H : Type} : Left H := { results := [], args := [] }

/- WHAT THE LISTED PACKAGE-LEVEL VARIABLES READ AS WHEN THE CALL BEGINS. Each datum BY PROGRAM (the guide's laid-datum.mjs) off the statement by which the dump's own 'gosem.cut.vars' lays the variable. In a bare row this is a premise. The card (YtaehpfmnejeddaaGreatDoorCards.lean) ties it to the program's text. -/
def laid_errors_errorType {H : Type} : DataW H := .iface "internal/reflectlite.rtype" (.agg [.ptr (.lit (.string [101, 114, 114, 111, 114]))])

/-- 'transomlaw14.OpsChanges': WHATEVER THE INPUT: true; the input reads as it did. -/
def opsChangesSpec : ChangeSpec := { name := "opsChanges", fn := fun _ => fun
  | [d1, d2] => { results := [.lit (.bool true)], args := [d1, d2] }
  | _ => none }
def opsChangesRow : OpenClaim := { program := "ytaehpfmnejeddaagreatdoor", sum := "1ec44d0206d051295d5c58ddc344c82d2333554b15a2da33fa20e7fd00081af4", func := "transom/transomlaw14.OpsChanges", spec := "opsChanges", inPlace := ["math.Float64frombits", "internal/reflectlite.ValueOf", "(internal/reflectlite.Value).Type", "(internal/reflectlite.Value).IsNil", "internal/reflectlite.TypeOf", "(internal/reflectlite.Value).Elem", "(internal/reflectlite.Value).Set"], unfollowed := true, recurses := true, named := ["errors.errorType"], apart := false, laid := [("errors.errorType", laid_errors_errorType)] }
def OpsChangesSaid : Prop := opsChangesRow.holds Tryz.pinned (OpenSpec.ofChange opsChangesSpec)

/-- ITS FALSE NEIGHBOUR: 'it returns false'. Refute it at one input. -/
def opsChangesWrong : ChangeSpec := { name := "opsChanges", fn := fun _ => fun
  | [d1, d2] => { results := [.lit (.bool false)], args := [d1, d2] }
  | _ => none }
def OpsChangesWrongFalsely : Prop := opsChangesRow.holds Tryz.pinned (OpenSpec.ofChange opsChangesWrong)

/-- 'transomlaw14.OpsPuts': WHATEVER THE INPUT: true; the input reads as it did. -/
def opsPutsSpec : ChangeSpec := { name := "opsPuts", fn := fun _ => fun
  | [d] => { results := [.lit (.bool true)], args := [d] }
  | _ => none }
def opsPutsRow : OpenClaim := { program := "ytaehpfmnejeddaagreatdoor", sum := "1ec44d0206d051295d5c58ddc344c82d2333554b15a2da33fa20e7fd00081af4", func := "transom/transomlaw14.OpsPuts", spec := "opsPuts", inPlace := ["math.Float64frombits", "internal/reflectlite.ValueOf", "(internal/reflectlite.Value).Type", "(internal/reflectlite.Value).IsNil", "internal/reflectlite.TypeOf", "(internal/reflectlite.Value).Elem", "(internal/reflectlite.Value).Set"], unfollowed := true, recurses := true, named := ["errors.errorType"], apart := false, laid := [("errors.errorType", laid_errors_errorType)] }
def OpsPutsSaid : Prop := opsPutsRow.holds Tryz.pinned (OpenSpec.ofChange opsPutsSpec)

/-- ITS FALSE NEIGHBOUR: 'it returns false'. Refute it at one input. -/
def opsPutsWrong : ChangeSpec := { name := "opsPuts", fn := fun _ => fun
  | [d] => { results := [.lit (.bool false)], args := [d] }
  | _ => none }
def OpsPutsWrongFalsely : Prop := opsPutsRow.holds Tryz.pinned (OpenSpec.ofChange opsPutsWrong)

/-- 'transomlaw14.OpsReads': WHATEVER THE INPUT: true; the input reads as it did. -/
def opsReadsSpec : ChangeSpec := { name := "opsReads", fn := fun _ => fun
  | [d] => { results := [.lit (.bool true)], args := [d] }
  | _ => none }
def opsReadsRow : OpenClaim := { program := "ytaehpfmnejeddaagreatdoor", sum := "1ec44d0206d051295d5c58ddc344c82d2333554b15a2da33fa20e7fd00081af4", func := "transom/transomlaw14.OpsReads", spec := "opsReads", inPlace := ["math.Float64frombits", "internal/reflectlite.ValueOf", "(internal/reflectlite.Value).Type", "(internal/reflectlite.Value).IsNil", "internal/reflectlite.TypeOf", "(internal/reflectlite.Value).Elem", "(internal/reflectlite.Value).Set"], unfollowed := true, recurses := true, named := ["errors.errorType"], apart := false, laid := [("errors.errorType", laid_errors_errorType)] }
def OpsReadsSaid : Prop := opsReadsRow.holds Tryz.pinned (OpenSpec.ofChange opsReadsSpec)

/-- ITS FALSE NEIGHBOUR: 'it returns false'. Refute it at one input. -/
def opsReadsWrong : ChangeSpec := { name := "opsReads", fn := fun _ => fun
  | [d] => { results := [.lit (.bool false)], args := [d] }
  | _ => none }
def OpsReadsWrongFalsely : Prop := opsReadsRow.holds Tryz.pinned (OpenSpec.ofChange opsReadsWrong)

/-- 'transomlaw14.OpsBack': WHATEVER THE INPUT: true; the input reads as it did. -/
def opsBackSpec : ChangeSpec := { name := "opsBack", fn := fun _ => fun
  | [d1, d2] => { results := [.lit (.bool true)], args := [d1, d2] }
  | _ => none }
def opsBackRow : OpenClaim := { program := "ytaehpfmnejeddaagreatdoor", sum := "1ec44d0206d051295d5c58ddc344c82d2333554b15a2da33fa20e7fd00081af4", func := "transom/transomlaw14.OpsBack", spec := "opsBack", inPlace := ["math.Float64frombits", "internal/reflectlite.ValueOf", "(internal/reflectlite.Value).Type", "(internal/reflectlite.Value).IsNil", "internal/reflectlite.TypeOf", "(internal/reflectlite.Value).Elem", "(internal/reflectlite.Value).Set"], unfollowed := true, recurses := true, named := ["errors.errorType"], apart := false, laid := [("errors.errorType", laid_errors_errorType)] }
def OpsBackSaid : Prop := opsBackRow.holds Tryz.pinned (OpenSpec.ofChange opsBackSpec)

/-- ITS FALSE NEIGHBOUR: 'it returns false'. Refute it at one input. -/
def opsBackWrong : ChangeSpec := { name := "opsBack", fn := fun _ => fun
  | [d1, d2] => { results := [.lit (.bool false)], args := [d1, d2] }
  | _ => none }
def OpsBackWrongFalsely : Prop := opsBackRow.holds Tryz.pinned (OpenSpec.ofChange opsBackWrong)

/-- 'transomlaw14.OpsTwo': WHATEVER THE INPUT: true; the input reads as it did. -/
def opsTwoSpec : ChangeSpec := { name := "opsTwo", fn := fun _ => fun
  | [d1, d2, d3] => { results := [.lit (.bool true)], args := [d1, d2, d3] }
  | _ => none }
def opsTwoRow : OpenClaim := { program := "ytaehpfmnejeddaagreatdoor", sum := "1ec44d0206d051295d5c58ddc344c82d2333554b15a2da33fa20e7fd00081af4", func := "transom/transomlaw14.OpsTwo", spec := "opsTwo", inPlace := ["math.Float64frombits", "internal/reflectlite.ValueOf", "(internal/reflectlite.Value).Type", "(internal/reflectlite.Value).IsNil", "internal/reflectlite.TypeOf", "(internal/reflectlite.Value).Elem", "(internal/reflectlite.Value).Set"], unfollowed := true, recurses := true, named := ["errors.errorType"], apart := false, laid := [("errors.errorType", laid_errors_errorType)] }
def OpsTwoSaid : Prop := opsTwoRow.holds Tryz.pinned (OpenSpec.ofChange opsTwoSpec)

/-- ITS FALSE NEIGHBOUR: 'it returns false'. Refute it at one input. -/
def opsTwoWrong : ChangeSpec := { name := "opsTwo", fn := fun _ => fun
  | [d1, d2, d3] => { results := [.lit (.bool false)], args := [d1, d2, d3] }
  | _ => none }
def OpsTwoWrongFalsely : Prop := opsTwoRow.holds Tryz.pinned (OpenSpec.ofChange opsTwoWrong)

/- THE SECOND FORM. 'bulk': how many values and letters a reading holds, each counted each time it is reached (what is shared counts as often as it is met; a slice's spare places count too). A statement '..UptoSaid' is the law's where the arguments, and the package variables that the reading takes, are together of bulk at most 1048576: NARROWER than '..Said'. Prove '..Said' where nothing that the law and all that it calls make is longer than what came in: it says more and counts as full. Else prove '..UptoSaid'. A law counts once. -/
mutual
def uptoBulk {H : Type} : DataW H → Nat
  | .lit (.string bytes) => bytes.length + 1
  | .lit _ => 1
  | .nil => 1
  | .ptr d => uptoBulk d + 1
  | .slice elems spare => uptoBulkAll elems + uptoBulkAll spare + 1
  | .agg parts => uptoBulkAll parts + 1
  | .iface _ d => uptoBulk d + 1
  | .map entries => uptoBulkEntries entries + 1
  | .held _ => 1
def uptoBulkAll {H : Type} : List (DataW H) → Nat
  | [] => 0
  | d :: r => uptoBulk d + uptoBulkAll r
def uptoBulkEntries {H : Type} : List (Lit × DataW H) → Nat
  | [] => 0
  | x :: r => uptoBulkEntry x + uptoBulkEntries r
def uptoBulkEntry {H : Type} : Lit × DataW H → Nat
  | (.string bytes, d) => bytes.length + uptoBulk d + 1
  | (_, d) => uptoBulk d + 1
 end
def uptoSmall : (H : Type) → List (DataW H) → Bool := fun _ ds => decide (uptoBulkAll ds ≤ 1048576)
def OpenSpec.upto (s : _root_.Go.ChangeSpec) : _root_.Go.OpenSpec := { _root_.Go.OpenSpec.ofChange s with cond := some uptoSmall }

/-- 'transomlaw14.OpsChanges', WHERE WHAT IT READS IS OF BULK AT MOST 1048576: true; the input reads as it did. -/
def opsChangesUptoRow : OpenClaim := { program := "ytaehpfmnejeddaagreatdoor", sum := "1ec44d0206d051295d5c58ddc344c82d2333554b15a2da33fa20e7fd00081af4", func := "transom/transomlaw14.OpsChanges", spec := "opsChanges", inPlace := ["math.Float64frombits", "internal/reflectlite.ValueOf", "(internal/reflectlite.Value).Type", "(internal/reflectlite.Value).IsNil", "internal/reflectlite.TypeOf", "(internal/reflectlite.Value).Elem", "(internal/reflectlite.Value).Set"], unfollowed := true, recurses := true, named := ["errors.errorType"], apart := false, laid := [("errors.errorType", laid_errors_errorType)], narrowed := true }
def OpsChangesUptoSaid : Prop := opsChangesUptoRow.holds Tryz.pinned (OpenSpec.upto opsChangesSpec)

/-- 'transomlaw14.OpsPuts', WHERE WHAT IT READS IS OF BULK AT MOST 1048576: true; the input reads as it did. -/
def opsPutsUptoRow : OpenClaim := { program := "ytaehpfmnejeddaagreatdoor", sum := "1ec44d0206d051295d5c58ddc344c82d2333554b15a2da33fa20e7fd00081af4", func := "transom/transomlaw14.OpsPuts", spec := "opsPuts", inPlace := ["math.Float64frombits", "internal/reflectlite.ValueOf", "(internal/reflectlite.Value).Type", "(internal/reflectlite.Value).IsNil", "internal/reflectlite.TypeOf", "(internal/reflectlite.Value).Elem", "(internal/reflectlite.Value).Set"], unfollowed := true, recurses := true, named := ["errors.errorType"], apart := false, laid := [("errors.errorType", laid_errors_errorType)], narrowed := true }
def OpsPutsUptoSaid : Prop := opsPutsUptoRow.holds Tryz.pinned (OpenSpec.upto opsPutsSpec)

/-- 'transomlaw14.OpsReads', WHERE WHAT IT READS IS OF BULK AT MOST 1048576: true; the input reads as it did. -/
def opsReadsUptoRow : OpenClaim := { program := "ytaehpfmnejeddaagreatdoor", sum := "1ec44d0206d051295d5c58ddc344c82d2333554b15a2da33fa20e7fd00081af4", func := "transom/transomlaw14.OpsReads", spec := "opsReads", inPlace := ["math.Float64frombits", "internal/reflectlite.ValueOf", "(internal/reflectlite.Value).Type", "(internal/reflectlite.Value).IsNil", "internal/reflectlite.TypeOf", "(internal/reflectlite.Value).Elem", "(internal/reflectlite.Value).Set"], unfollowed := true, recurses := true, named := ["errors.errorType"], apart := false, laid := [("errors.errorType", laid_errors_errorType)], narrowed := true }
def OpsReadsUptoSaid : Prop := opsReadsUptoRow.holds Tryz.pinned (OpenSpec.upto opsReadsSpec)

/-- 'transomlaw14.OpsBack', WHERE WHAT IT READS IS OF BULK AT MOST 1048576: true; the input reads as it did. -/
def opsBackUptoRow : OpenClaim := { program := "ytaehpfmnejeddaagreatdoor", sum := "1ec44d0206d051295d5c58ddc344c82d2333554b15a2da33fa20e7fd00081af4", func := "transom/transomlaw14.OpsBack", spec := "opsBack", inPlace := ["math.Float64frombits", "internal/reflectlite.ValueOf", "(internal/reflectlite.Value).Type", "(internal/reflectlite.Value).IsNil", "internal/reflectlite.TypeOf", "(internal/reflectlite.Value).Elem", "(internal/reflectlite.Value).Set"], unfollowed := true, recurses := true, named := ["errors.errorType"], apart := false, laid := [("errors.errorType", laid_errors_errorType)], narrowed := true }
def OpsBackUptoSaid : Prop := opsBackUptoRow.holds Tryz.pinned (OpenSpec.upto opsBackSpec)

/-- 'transomlaw14.OpsTwo', WHERE WHAT IT READS IS OF BULK AT MOST 1048576: true; the input reads as it did. -/
def opsTwoUptoRow : OpenClaim := { program := "ytaehpfmnejeddaagreatdoor", sum := "1ec44d0206d051295d5c58ddc344c82d2333554b15a2da33fa20e7fd00081af4", func := "transom/transomlaw14.OpsTwo", spec := "opsTwo", inPlace := ["math.Float64frombits", "internal/reflectlite.ValueOf", "(internal/reflectlite.Value).Type", "(internal/reflectlite.Value).IsNil", "internal/reflectlite.TypeOf", "(internal/reflectlite.Value).Elem", "(internal/reflectlite.Value).Set"], unfollowed := true, recurses := true, named := ["errors.errorType"], apart := false, laid := [("errors.errorType", laid_errors_errorType)], narrowed := true }
def OpsTwoUptoSaid : Prop := opsTwoUptoRow.holds Tryz.pinned (OpenSpec.upto opsTwoSpec)

end Rows
end Go.Proofs.YtaehpfmnejeddaaGreatDoor
