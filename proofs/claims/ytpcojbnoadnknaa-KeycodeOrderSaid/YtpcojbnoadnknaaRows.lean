/-
  No cell of these rows narrows 'for every input' (looked for: loops, veiled, ifaces, maps, wideKeys, modest, calm, conditions, laid).
  DERIVED. THE GIVEN ROWS OF THIS SEAT. 5 by the template 'for every input the law returns true; each argument reads behind the call as it read before'; 0 by the template 'total and deterministic' (their statements: YtpcojbnoadnknaaTotals.lean).
  GIVEN WITH THE SEED: the statements are not yours to turn. If you find one false, say at which input.
  Laid BY PROGRAM, IN A SANDBOX (cutbox-rows.mjs): the forced cells as the released guide's own fill.sh prints them over the translation 97d298405ae72a1e… (all of the seat's roots in one cut). By AI agents, Wed Nov 11 2026. No macro, syntax, notation, axiom, sorry.
-/
import Derived.Test.YtpcojbnoadnknaaChecked
import GoSem.Claim
import GoSem.ClaimJoined
import GoSem.ClaimMapViews
import Derived.JoinedTies
import Derived.KernelRfl
namespace Go.Proofs.Ytpcojbnoadnknaa
/- THE CELL 'sum', in the pinned program and in every row, IS THE sha256 OF THE DUMP (.gsa) THAT YtpcojbnoadnknaaProg.lean LOADS. Nothing in Lean hashes anything: it is a label: what it is worth is what the hold of that sum in a sandbox is worth. -/
noncomputable def Try.pinned : Pinned := { name := "ytpcojbnoadnknaa", sum := "97d298405ae72a1ec116f64ef785ac20aa97c009055d8eba9888a1887e28c5ad", checked := Try.checked }
namespace Rows
def none {H : Type} : Left H := { results := [], args := [] }

/-- 'transomlaw05.KeycodeReads': WHATEVER THE INPUT: true; the input reads as it did. -/
def keycodeReadsSpec : ChangeSpec := { name := "keycodeReads", fn := fun _ => fun
  | [d] => { results := [.lit (.bool true)], args := [d] }
  | _ => none }
def keycodeReadsRow : OpenClaim := { program := "ytpcojbnoadnknaa", sum := "97d298405ae72a1ec116f64ef785ac20aa97c009055d8eba9888a1887e28c5ad", func := "transom/transomlaw05.KeycodeReads", spec := "keycodeReads", inPlace := ["math.Float64frombits"], unfollowed := true, recurses := true, apart := false }
def KeycodeReadsSaid : Prop := keycodeReadsRow.holds Try.pinned (OpenSpec.ofChange keycodeReadsSpec)

/-- ITS FALSE NEIGHBOUR: 'it returns false'. Refute it at one input. -/
def keycodeReadsWrong : ChangeSpec := { name := "keycodeReads", fn := fun _ => fun
  | [d] => { results := [.lit (.bool false)], args := [d] }
  | _ => none }
def KeycodeReadsWrongFalsely : Prop := keycodeReadsRow.holds Try.pinned (OpenSpec.ofChange keycodeReadsWrong)

/-- 'transomlaw05.KeycodeAfter': WHATEVER THE INPUT: true; the input reads as it did. -/
def keycodeAfterSpec : ChangeSpec := { name := "keycodeAfter", fn := fun _ => fun
  | [d1, d2] => { results := [.lit (.bool true)], args := [d1, d2] }
  | _ => none }
def keycodeAfterRow : OpenClaim := { program := "ytpcojbnoadnknaa", sum := "97d298405ae72a1ec116f64ef785ac20aa97c009055d8eba9888a1887e28c5ad", func := "transom/transomlaw05.KeycodeAfter", spec := "keycodeAfter", inPlace := ["math.Float64frombits"], unfollowed := true, recurses := true, apart := false }
def KeycodeAfterSaid : Prop := keycodeAfterRow.holds Try.pinned (OpenSpec.ofChange keycodeAfterSpec)

/-- ITS FALSE NEIGHBOUR: 'it returns false'. Refute it at one input. -/
def keycodeAfterWrong : ChangeSpec := { name := "keycodeAfter", fn := fun _ => fun
  | [d1, d2] => { results := [.lit (.bool false)], args := [d1, d2] }
  | _ => none }
def KeycodeAfterWrongFalsely : Prop := keycodeAfterRow.holds Try.pinned (OpenSpec.ofChange keycodeAfterWrong)

/-- 'transomlaw05.KeycodeBack': WHATEVER THE INPUT: true; the input reads as it did. -/
def keycodeBackSpec : ChangeSpec := { name := "keycodeBack", fn := fun _ => fun
  | [d1, d2] => { results := [.lit (.bool true)], args := [d1, d2] }
  | _ => none }
def keycodeBackRow : OpenClaim := { program := "ytpcojbnoadnknaa", sum := "97d298405ae72a1ec116f64ef785ac20aa97c009055d8eba9888a1887e28c5ad", func := "transom/transomlaw05.KeycodeBack", spec := "keycodeBack", inPlace := ["math.Float64frombits"], unfollowed := true, recurses := true, apart := false }
def KeycodeBackSaid : Prop := keycodeBackRow.holds Try.pinned (OpenSpec.ofChange keycodeBackSpec)

/-- ITS FALSE NEIGHBOUR: 'it returns false'. Refute it at one input. -/
def keycodeBackWrong : ChangeSpec := { name := "keycodeBack", fn := fun _ => fun
  | [d1, d2] => { results := [.lit (.bool false)], args := [d1, d2] }
  | _ => none }
def KeycodeBackWrongFalsely : Prop := keycodeBackRow.holds Try.pinned (OpenSpec.ofChange keycodeBackWrong)

/-- 'transomlaw05.KeycodePuts': WHATEVER THE INPUT: true; the input reads as it did. -/
def keycodePutsSpec : ChangeSpec := { name := "keycodePuts", fn := fun _ => fun
  | [d] => { results := [.lit (.bool true)], args := [d] }
  | _ => none }
def keycodePutsRow : OpenClaim := { program := "ytpcojbnoadnknaa", sum := "97d298405ae72a1ec116f64ef785ac20aa97c009055d8eba9888a1887e28c5ad", func := "transom/transomlaw05.KeycodePuts", spec := "keycodePuts", inPlace := ["math.Float64frombits"], unfollowed := true, recurses := true, apart := false }
def KeycodePutsSaid : Prop := keycodePutsRow.holds Try.pinned (OpenSpec.ofChange keycodePutsSpec)

/-- ITS FALSE NEIGHBOUR: 'it returns false'. Refute it at one input. -/
def keycodePutsWrong : ChangeSpec := { name := "keycodePuts", fn := fun _ => fun
  | [d] => { results := [.lit (.bool false)], args := [d] }
  | _ => none }
def KeycodePutsWrongFalsely : Prop := keycodePutsRow.holds Try.pinned (OpenSpec.ofChange keycodePutsWrong)

/-- 'transomlaw05.KeycodeOrder': WHATEVER THE INPUT: true; the input reads as it did. -/
def keycodeOrderSpec : ChangeSpec := { name := "keycodeOrder", fn := fun _ => fun
  | [d1, d2] => { results := [.lit (.bool true)], args := [d1, d2] }
  | _ => none }
def keycodeOrderRow : OpenClaim := { program := "ytpcojbnoadnknaa", sum := "97d298405ae72a1ec116f64ef785ac20aa97c009055d8eba9888a1887e28c5ad", func := "transom/transomlaw05.KeycodeOrder", spec := "keycodeOrder", inPlace := ["math.Float64frombits", "internal/bytealg.abigen_runtime_cmpstring"], unfollowed := true, recurses := true, apart := false }
def KeycodeOrderSaid : Prop := keycodeOrderRow.holds Try.pinned (OpenSpec.ofChange keycodeOrderSpec)

/-- ITS FALSE NEIGHBOUR: 'it returns false'. Refute it at one input. -/
def keycodeOrderWrong : ChangeSpec := { name := "keycodeOrder", fn := fun _ => fun
  | [d1, d2] => { results := [.lit (.bool false)], args := [d1, d2] }
  | _ => none }
def KeycodeOrderWrongFalsely : Prop := keycodeOrderRow.holds Try.pinned (OpenSpec.ofChange keycodeOrderWrong)

/- THE SECOND FORM. 'bulk': how many values and letters a reading holds, each counted each time it is reached (what is shared counts as often as it is met; a slice's spare places count too). A statement '..UptoSaid' is the law's where the arguments, and the package variables that the reading takes, are together of bulk at most 1048576: NARROWER than '..Said'. Prove '..Said' where nothing that the law and all that it calls make is longer than what came in: it says more and counts as full. Else prove '..UptoSaid'. A law counts once. -/
mutual
def uptoBulk {H : Type} : DataW H → Nat
  | .lit (.string bytes) => bytes.length + 1
  | .lit _ => 1
  | .nil => 1
  | .ptr d => uptoBulk d + 1
  | .slice elems spare => uptoBulkAll elems + uptoBulkAll spare + 1
  | .agg parts => uptoBulkAll parts + 1
  | .iface _ d => uptoBulk d + 1
  | .map entries => uptoBulkEntries entries + 1
  | .held _ => 1
def uptoBulkAll {H : Type} : List (DataW H) → Nat
  | [] => 0
  | d :: r => uptoBulk d + uptoBulkAll r
def uptoBulkEntries {H : Type} : List (Lit × DataW H) → Nat
  | [] => 0
  | x :: r => uptoBulkEntry x + uptoBulkEntries r
def uptoBulkEntry {H : Type} : Lit × DataW H → Nat
  | (.string bytes, d) => bytes.length + uptoBulk d + 1
  | (_, d) => uptoBulk d + 1
 end
def uptoSmall : (H : Type) → List (DataW H) → Bool := fun _ ds => decide (uptoBulkAll ds ≤ 1048576)
def OpenSpec.upto (s : _root_.Go.ChangeSpec) : _root_.Go.OpenSpec := { _root_.Go.OpenSpec.ofChange s with cond := some uptoSmall }

/-- 'transomlaw05.KeycodeReads', WHERE WHAT IT READS IS OF BULK AT MOST 1048576: true; the input reads as it did. -/
def keycodeReadsUptoRow : OpenClaim := { program := "ytpcojbnoadnknaa", sum := "97d298405ae72a1ec116f64ef785ac20aa97c009055d8eba9888a1887e28c5ad", func := "transom/transomlaw05.KeycodeReads", spec := "keycodeReads", inPlace := ["math.Float64frombits"], unfollowed := true, recurses := true, apart := false, narrowed := true }
def KeycodeReadsUptoSaid : Prop := keycodeReadsUptoRow.holds Try.pinned (OpenSpec.upto keycodeReadsSpec)

/-- 'transomlaw05.KeycodeAfter', WHERE WHAT IT READS IS OF BULK AT MOST 1048576: true; the input reads as it did. -/
def keycodeAfterUptoRow : OpenClaim := { program := "ytpcojbnoadnknaa", sum := "97d298405ae72a1ec116f64ef785ac20aa97c009055d8eba9888a1887e28c5ad", func := "transom/transomlaw05.KeycodeAfter", spec := "keycodeAfter", inPlace := ["math.Float64frombits"], unfollowed := true, recurses := true, apart := false, narrowed := true }
def KeycodeAfterUptoSaid : Prop := keycodeAfterUptoRow.holds Try.pinned (OpenSpec.upto keycodeAfterSpec)

/-- 'transomlaw05.KeycodeBack', WHERE WHAT IT READS IS OF BULK AT MOST 1048576: true; the input reads as it did. -/
def keycodeBackUptoRow : OpenClaim := { program := "ytpcojbnoadnknaa", sum := "97d298405ae72a1ec116f64ef785ac20aa97c009055d8eba9888a1887e28c5ad", func := "transom/transomlaw05.KeycodeBack", spec := "keycodeBack", inPlace := ["math.Float64frombits"], unfollowed := true, recurses := true, apart := false, narrowed := true }
def KeycodeBackUptoSaid : Prop := keycodeBackUptoRow.holds Try.pinned (OpenSpec.upto keycodeBackSpec)

/-- 'transomlaw05.KeycodePuts', WHERE WHAT IT READS IS OF BULK AT MOST 1048576: true; the input reads as it did. -/
def keycodePutsUptoRow : OpenClaim := { program := "ytpcojbnoadnknaa", sum := "97d298405ae72a1ec116f64ef785ac20aa97c009055d8eba9888a1887e28c5ad", func := "transom/transomlaw05.KeycodePuts", spec := "keycodePuts", inPlace := ["math.Float64frombits"], unfollowed := true, recurses := true, apart := false, narrowed := true }
def KeycodePutsUptoSaid : Prop := keycodePutsUptoRow.holds Try.pinned (OpenSpec.upto keycodePutsSpec)

/-- 'transomlaw05.KeycodeOrder', WHERE WHAT IT READS IS OF BULK AT MOST 1048576: true; the input reads as it did. -/
def keycodeOrderUptoRow : OpenClaim := { program := "ytpcojbnoadnknaa", sum := "97d298405ae72a1ec116f64ef785ac20aa97c009055d8eba9888a1887e28c5ad", func := "transom/transomlaw05.KeycodeOrder", spec := "keycodeOrder", inPlace := ["math.Float64frombits", "internal/bytealg.abigen_runtime_cmpstring"], unfollowed := true, recurses := true, apart := false, narrowed := true }
def KeycodeOrderUptoSaid : Prop := keycodeOrderUptoRow.holds Try.pinned (OpenSpec.upto keycodeOrderSpec)

end Rows
end Go.Proofs.Ytpcojbnoadnknaa
