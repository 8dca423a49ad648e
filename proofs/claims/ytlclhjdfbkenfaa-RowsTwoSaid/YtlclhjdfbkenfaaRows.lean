/-
  No cell of these rows narrows 'for every input' (looked for: loops, veiled, ifaces, maps, wideKeys, modest, calm, conditions, laid).
  DERIVED. THE GIVEN ROWS OF THIS SEAT. 5 by the template 'for every input the law returns true; each argument reads behind the call as it read before'; 0 by the template 'total and deterministic' (their statements: YtlclhjdfbkenfaaTotals.lean).
  GIVEN WITH THE SEED: the statements are not yours to turn. If you find one false, say at which input.
  Laid BY PROGRAM, IN A SANDBOX (cutbox-rows.mjs): the forced cells as the released guide's own fill.sh prints them over the translation 521c93484726e44f… (all of the seat's roots in one cut). By AI agents, Wed Nov 11 2026. No macro, syntax, notation, axiom, sorry.
-/
import Derived.Test.YtlclhjdfbkenfaaChecked
import GoSem.Claim
import GoSem.ClaimJoined
import GoSem.ClaimMapViews
import Derived.JoinedTies
import Derived.KernelRfl
namespace Go.Proofs.Ytlclhjdfbkenfaa
/- THE CELL 'sum', in the pinned program and in every row, IS THE sha256 OF THE DUMP (.gsa) THAT YtlclhjdfbkenfaaProg.lean LOADS. Nothing in Lean hashes anything: it is a label: what it is worth is what the hold of that sum in a sandbox is worth. -/
noncomputable def Try.pinned : Pinned := { name := "ytlclhjdfbkenfaa", sum := "521c93484726e44f1371e177bff64ad715f4b7da9b44d99e321e9e37e7f669c3", checked := Try.checked }
namespace Rows
def none {H : Type} : Left H := { results := [], args := [] }

/-- 'transomlaw06.RowsPuts': WHATEVER THE INPUT: true; the input reads as it did. -/
def rowsPutsSpec : ChangeSpec := { name := "rowsPuts", fn := fun _ => fun
  | [d] => { results := [.lit (.bool true)], args := [d] }
  | _ => none }
def rowsPutsRow : OpenClaim := { program := "ytlclhjdfbkenfaa", sum := "521c93484726e44f1371e177bff64ad715f4b7da9b44d99e321e9e37e7f669c3", func := "transom/transomlaw06.RowsPuts", spec := "rowsPuts", inPlace := ["math.Float64frombits", "internal/bytealg.abigen_runtime_cmpstring"], unfollowed := true, recurses := true, apart := false }
def RowsPutsSaid : Prop := rowsPutsRow.holds Try.pinned (OpenSpec.ofChange rowsPutsSpec)

/-- ITS FALSE NEIGHBOUR: 'it returns false'. Refute it at one input. -/
def rowsPutsWrong : ChangeSpec := { name := "rowsPuts", fn := fun _ => fun
  | [d] => { results := [.lit (.bool false)], args := [d] }
  | _ => none }
def RowsPutsWrongFalsely : Prop := rowsPutsRow.holds Try.pinned (OpenSpec.ofChange rowsPutsWrong)

/-- 'transomlaw06.RowsReads': WHATEVER THE INPUT: true; the input reads as it did. -/
def rowsReadsSpec : ChangeSpec := { name := "rowsReads", fn := fun _ => fun
  | [d] => { results := [.lit (.bool true)], args := [d] }
  | _ => none }
def rowsReadsRow : OpenClaim := { program := "ytlclhjdfbkenfaa", sum := "521c93484726e44f1371e177bff64ad715f4b7da9b44d99e321e9e37e7f669c3", func := "transom/transomlaw06.RowsReads", spec := "rowsReads", inPlace := ["math.Float64frombits", "internal/bytealg.abigen_runtime_cmpstring"], unfollowed := true, recurses := true, apart := false }
def RowsReadsSaid : Prop := rowsReadsRow.holds Try.pinned (OpenSpec.ofChange rowsReadsSpec)

/-- ITS FALSE NEIGHBOUR: 'it returns false'. Refute it at one input. -/
def rowsReadsWrong : ChangeSpec := { name := "rowsReads", fn := fun _ => fun
  | [d] => { results := [.lit (.bool false)], args := [d] }
  | _ => none }
def RowsReadsWrongFalsely : Prop := rowsReadsRow.holds Try.pinned (OpenSpec.ofChange rowsReadsWrong)

/-- 'transomlaw06.RowsBack': WHATEVER THE INPUT: true; the input reads as it did. -/
def rowsBackSpec : ChangeSpec := { name := "rowsBack", fn := fun _ => fun
  | [d] => { results := [.lit (.bool true)], args := [d] }
  | _ => none }
def rowsBackRow : OpenClaim := { program := "ytlclhjdfbkenfaa", sum := "521c93484726e44f1371e177bff64ad715f4b7da9b44d99e321e9e37e7f669c3", func := "transom/transomlaw06.RowsBack", spec := "rowsBack", inPlace := ["math.Float64frombits", "internal/bytealg.abigen_runtime_cmpstring"], unfollowed := true, recurses := true, apart := false }
def RowsBackSaid : Prop := rowsBackRow.holds Try.pinned (OpenSpec.ofChange rowsBackSpec)

/-- ITS FALSE NEIGHBOUR: 'it returns false'. Refute it at one input. -/
def rowsBackWrong : ChangeSpec := { name := "rowsBack", fn := fun _ => fun
  | [d] => { results := [.lit (.bool false)], args := [d] }
  | _ => none }
def RowsBackWrongFalsely : Prop := rowsBackRow.holds Try.pinned (OpenSpec.ofChange rowsBackWrong)

/-- 'transomlaw06.RowsPicks': WHATEVER THE INPUT: true; the input reads as it did. -/
def rowsPicksSpec : ChangeSpec := { name := "rowsPicks", fn := fun _ => fun
  | [d1, d2] => { results := [.lit (.bool true)], args := [d1, d2] }
  | _ => none }
def rowsPicksRow : OpenClaim := { program := "ytlclhjdfbkenfaa", sum := "521c93484726e44f1371e177bff64ad715f4b7da9b44d99e321e9e37e7f669c3", func := "transom/transomlaw06.RowsPicks", spec := "rowsPicks", inPlace := ["math.Float64frombits", "internal/bytealg.abigen_runtime_cmpstring"], unfollowed := true, recurses := true, apart := false }
def RowsPicksSaid : Prop := rowsPicksRow.holds Try.pinned (OpenSpec.ofChange rowsPicksSpec)

/-- ITS FALSE NEIGHBOUR: 'it returns false'. Refute it at one input. -/
def rowsPicksWrong : ChangeSpec := { name := "rowsPicks", fn := fun _ => fun
  | [d1, d2] => { results := [.lit (.bool false)], args := [d1, d2] }
  | _ => none }
def RowsPicksWrongFalsely : Prop := rowsPicksRow.holds Try.pinned (OpenSpec.ofChange rowsPicksWrong)

/-- 'transomlaw06.RowsTwo': WHATEVER THE INPUT: true; the input reads as it did. -/
def rowsTwoSpec : ChangeSpec := { name := "rowsTwo", fn := fun _ => fun
  | [d1, d2] => { results := [.lit (.bool true)], args := [d1, d2] }
  | _ => none }
def rowsTwoRow : OpenClaim := { program := "ytlclhjdfbkenfaa", sum := "521c93484726e44f1371e177bff64ad715f4b7da9b44d99e321e9e37e7f669c3", func := "transom/transomlaw06.RowsTwo", spec := "rowsTwo", inPlace := ["math.Float64frombits", "internal/bytealg.abigen_runtime_cmpstring"], unfollowed := true, recurses := true, apart := false }
def RowsTwoSaid : Prop := rowsTwoRow.holds Try.pinned (OpenSpec.ofChange rowsTwoSpec)

/-- ITS FALSE NEIGHBOUR: 'it returns false'. Refute it at one input. -/
def rowsTwoWrong : ChangeSpec := { name := "rowsTwo", fn := fun _ => fun
  | [d1, d2] => { results := [.lit (.bool false)], args := [d1, d2] }
  | _ => none }
def RowsTwoWrongFalsely : Prop := rowsTwoRow.holds Try.pinned (OpenSpec.ofChange rowsTwoWrong)

/- THE SECOND FORM. 'bulk': how many values and letters a reading holds, each counted each time it is reached (what is shared counts as often as it is met; a slice's spare places count too). A statement '..UptoSaid' is the law's where the arguments, and the package variables that the reading takes, are together of bulk at most 1048576: NARROWER than '..Said'. Prove '..Said' where nothing that the law and all that it calls make is longer than what came in: it says more and counts as full. Else prove '..UptoSaid'. A law counts once. -/
mutual
def uptoBulk {H : Type} : DataW H → Nat
  | .lit (.string bytes) => bytes.length + 1
  | .lit _ => 1
  | .nil => 1
  | .ptr d => uptoBulk d + 1
  | .slice elems spare => uptoBulkAll elems + uptoBulkAll spare + 1
  | .agg parts => uptoBulkAll parts + 1
  | .iface _ d => uptoBulk d + 1
  | .map entries => uptoBulkEntries entries + 1
  | .held _ => 1
def uptoBulkAll {H : Type} : List (DataW H) → Nat
  | [] => 0
  | d :: r => uptoBulk d + uptoBulkAll r
def uptoBulkEntries {H : Type} : List (Lit × DataW H) → Nat
  | [] => 0
  | x :: r => uptoBulkEntry x + uptoBulkEntries r
def uptoBulkEntry {H : Type} : Lit × DataW H → Nat
  | (.string bytes, d) => bytes.length + uptoBulk d + 1
  | (_, d) => uptoBulk d + 1
 end
def uptoSmall : (H : Type) → List (DataW H) → Bool := fun _ ds => decide (uptoBulkAll ds ≤ 1048576)
def OpenSpec.upto (s : _root_.Go.ChangeSpec) : _root_.Go.OpenSpec := { _root_.Go.OpenSpec.ofChange s with cond := some uptoSmall }

/-- 'transomlaw06.RowsPuts', WHERE WHAT IT READS IS OF BULK AT MOST 1048576: true; the input reads as it did. -/
def rowsPutsUptoRow : OpenClaim := { program := "ytlclhjdfbkenfaa", sum := "521c93484726e44f1371e177bff64ad715f4b7da9b44d99e321e9e37e7f669c3", func := "transom/transomlaw06.RowsPuts", spec := "rowsPuts", inPlace := ["math.Float64frombits", "internal/bytealg.abigen_runtime_cmpstring"], unfollowed := true, recurses := true, apart := false, narrowed := true }
def RowsPutsUptoSaid : Prop := rowsPutsUptoRow.holds Try.pinned (OpenSpec.upto rowsPutsSpec)

/-- 'transomlaw06.RowsReads', WHERE WHAT IT READS IS OF BULK AT MOST 1048576: true; the input reads as it did. -/
def rowsReadsUptoRow : OpenClaim := { program := "ytlclhjdfbkenfaa", sum := "521c93484726e44f1371e177bff64ad715f4b7da9b44d99e321e9e37e7f669c3", func := "transom/transomlaw06.RowsReads", spec := "rowsReads", inPlace := ["math.Float64frombits", "internal/bytealg.abigen_runtime_cmpstring"], unfollowed := true, recurses := true, apart := false, narrowed := true }
def RowsReadsUptoSaid : Prop := rowsReadsUptoRow.holds Try.pinned (OpenSpec.upto rowsReadsSpec)

/-- 'transomlaw06.RowsBack', WHERE WHAT IT READS IS OF BULK AT MOST 1048576: true; the input reads as it did. -/
def rowsBackUptoRow : OpenClaim := { program := "ytlclhjdfbkenfaa", sum := "521c93484726e44f1371e177bff64ad715f4b7da9b44d99e321e9e37e7f669c3", func := "transom/transomlaw06.RowsBack", spec := "rowsBack", inPlace := ["math.Float64frombits", "internal/bytealg.abigen_runtime_cmpstring"], unfollowed := true, recurses := true, apart := false, narrowed := true }
def RowsBackUptoSaid : Prop := rowsBackUptoRow.holds Try.pinned (OpenSpec.upto rowsBackSpec)

/-- 'transomlaw06.RowsPicks', WHERE WHAT IT READS IS OF BULK AT MOST 1048576: true; the input reads as it did. -/
def rowsPicksUptoRow : OpenClaim := { program := "ytlclhjdfbkenfaa", sum := "521c93484726e44f1371e177bff64ad715f4b7da9b44d99e321e9e37e7f669c3", func := "transom/transomlaw06.RowsPicks", spec := "rowsPicks", inPlace := ["math.Float64frombits", "internal/bytealg.abigen_runtime_cmpstring"], unfollowed := true, recurses := true, apart := false, narrowed := true }
def RowsPicksUptoSaid : Prop := rowsPicksUptoRow.holds Try.pinned (OpenSpec.upto rowsPicksSpec)

/-- 'transomlaw06.RowsTwo', WHERE WHAT IT READS IS OF BULK AT MOST 1048576: true; the input reads as it did. -/
def rowsTwoUptoRow : OpenClaim := { program := "ytlclhjdfbkenfaa", sum := "521c93484726e44f1371e177bff64ad715f4b7da9b44d99e321e9e37e7f669c3", func := "transom/transomlaw06.RowsTwo", spec := "rowsTwo", inPlace := ["math.Float64frombits", "internal/bytealg.abigen_runtime_cmpstring"], unfollowed := true, recurses := true, apart := false, narrowed := true }
def RowsTwoUptoSaid : Prop := rowsTwoUptoRow.holds Try.pinned (OpenSpec.upto rowsTwoSpec)

end Rows
end Go.Proofs.Ytlclhjdfbkenfaa
