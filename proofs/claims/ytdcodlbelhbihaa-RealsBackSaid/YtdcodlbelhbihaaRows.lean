/-
  No cell of these rows narrows 'for every input' (looked for: loops, veiled, ifaces, maps, wideKeys, modest, calm, conditions, laid).
  DERIVED. THE GIVEN ROWS OF THIS SEAT. 6 by the template 'for every input the law returns true; each argument reads behind the call as it read before'; 0 by the template 'total and deterministic' (their statements: YtdcodlbelhbihaaTotals.lean).
  GIVEN WITH THE SEED: the statements are not yours to turn. If you find one false, say at which input.
  Laid BY PROGRAM, IN A SANDBOX (cutbox-rows.mjs): the forced cells as the released guide's own fill.sh prints them over the translation 1384f8e5d36fa2c8… (all of the seat's roots in one cut). By AI agents, Wed Nov 11 2026. No macro, syntax, notation, axiom, sorry.
-/
import Derived.Test.YtdcodlbelhbihaaChecked
import GoSem.Claim
import GoSem.ClaimJoined
import GoSem.ClaimMapViews
import Derived.JoinedTies
import Derived.KernelRfl
namespace Go.Proofs.Ytdcodlbelhbihaa
/- THE CELL 'sum', in the pinned program and in every row, IS THE sha256 OF THE DUMP (.gsa) THAT YtdcodlbelhbihaaProg.lean LOADS. Nothing in Lean hashes anything: it is a label: what it is worth is what the hold of that sum in a sandbox is worth. -/
noncomputable def Try.pinned : Pinned := { name := "ytdcodlbelhbihaa", sum := "1384f8e5d36fa2c84fbe2027f9bc04d99c7d3dfb868e2139cda2adbfd1e5bc38", checked := Try.checked }
namespace Rows
def none {H : Type} : Left H := { results := [], args := [] }

/-- 'transomlaw02.RealsTwo': WHATEVER THE INPUT: true; the input reads as it did. -/
def realsTwoSpec : ChangeSpec := { name := "realsTwo", fn := fun _ => fun
  | [d1, d2] => { results := [.lit (.bool true)], args := [d1, d2] }
  | _ => none }
def realsTwoRow : OpenClaim := { program := "ytdcodlbelhbihaa", sum := "1384f8e5d36fa2c84fbe2027f9bc04d99c7d3dfb868e2139cda2adbfd1e5bc38", func := "transom/transomlaw02.RealsTwo", spec := "realsTwo", inPlace := ["math.Float64frombits", "math.Float64bits", "math.archTrunc"], apart := false }
def RealsTwoSaid : Prop := realsTwoRow.holds Try.pinned (OpenSpec.ofChange realsTwoSpec)

/-- ITS FALSE NEIGHBOUR: 'it returns false'. Refute it at one input. -/
def realsTwoWrong : ChangeSpec := { name := "realsTwo", fn := fun _ => fun
  | [d1, d2] => { results := [.lit (.bool false)], args := [d1, d2] }
  | _ => none }
def RealsTwoWrongFalsely : Prop := realsTwoRow.holds Try.pinned (OpenSpec.ofChange realsTwoWrong)

/-- 'transomlaw02.RealsInts': WHATEVER THE INPUT: true; the input reads as it did. -/
def realsIntsSpec : ChangeSpec := { name := "realsInts", fn := fun _ => fun
  | [d1, d2] => { results := [.lit (.bool true)], args := [d1, d2] }
  | _ => none }
def realsIntsRow : OpenClaim := { program := "ytdcodlbelhbihaa", sum := "1384f8e5d36fa2c84fbe2027f9bc04d99c7d3dfb868e2139cda2adbfd1e5bc38", func := "transom/transomlaw02.RealsInts", spec := "realsInts", inPlace := ["math.Float64bits", "math.Float64frombits", "math.archTrunc"], apart := false }
def RealsIntsSaid : Prop := realsIntsRow.holds Try.pinned (OpenSpec.ofChange realsIntsSpec)

/-- ITS FALSE NEIGHBOUR: 'it returns false'. Refute it at one input. -/
def realsIntsWrong : ChangeSpec := { name := "realsInts", fn := fun _ => fun
  | [d1, d2] => { results := [.lit (.bool false)], args := [d1, d2] }
  | _ => none }
def RealsIntsWrongFalsely : Prop := realsIntsRow.holds Try.pinned (OpenSpec.ofChange realsIntsWrong)

/-- 'transomlaw02.RealsOrder': WHATEVER THE INPUT: true; the input reads as it did. -/
def realsOrderSpec : ChangeSpec := { name := "realsOrder", fn := fun _ => fun
  | [d1, d2] => { results := [.lit (.bool true)], args := [d1, d2] }
  | _ => none }
def realsOrderRow : OpenClaim := { program := "ytdcodlbelhbihaa", sum := "1384f8e5d36fa2c84fbe2027f9bc04d99c7d3dfb868e2139cda2adbfd1e5bc38", func := "transom/transomlaw02.RealsOrder", spec := "realsOrder", inPlace := ["math.Float64bits", "math.Float64frombits", "math.archTrunc"], apart := false }
def RealsOrderSaid : Prop := realsOrderRow.holds Try.pinned (OpenSpec.ofChange realsOrderSpec)

/-- ITS FALSE NEIGHBOUR: 'it returns false'. Refute it at one input. -/
def realsOrderWrong : ChangeSpec := { name := "realsOrder", fn := fun _ => fun
  | [d1, d2] => { results := [.lit (.bool false)], args := [d1, d2] }
  | _ => none }
def RealsOrderWrongFalsely : Prop := realsOrderRow.holds Try.pinned (OpenSpec.ofChange realsOrderWrong)

/-- 'transomlaw02.RealsThree': WHATEVER THE INPUT: true; the input reads as it did. -/
def realsThreeSpec : ChangeSpec := { name := "realsThree", fn := fun _ => fun
  | [d1, d2, d3] => { results := [.lit (.bool true)], args := [d1, d2, d3] }
  | _ => none }
def realsThreeRow : OpenClaim := { program := "ytdcodlbelhbihaa", sum := "1384f8e5d36fa2c84fbe2027f9bc04d99c7d3dfb868e2139cda2adbfd1e5bc38", func := "transom/transomlaw02.RealsThree", spec := "realsThree", inPlace := ["math.Float64frombits", "math.Float64bits", "math.archTrunc"], apart := false }
def RealsThreeSaid : Prop := realsThreeRow.holds Try.pinned (OpenSpec.ofChange realsThreeSpec)

/-- ITS FALSE NEIGHBOUR: 'it returns false'. Refute it at one input. -/
def realsThreeWrong : ChangeSpec := { name := "realsThree", fn := fun _ => fun
  | [d1, d2, d3] => { results := [.lit (.bool false)], args := [d1, d2, d3] }
  | _ => none }
def RealsThreeWrongFalsely : Prop := realsThreeRow.holds Try.pinned (OpenSpec.ofChange realsThreeWrong)

/-- 'transomlaw02.RealsKinds': WHATEVER THE INPUT: true; the input reads as it did. -/
def realsKindsSpec : ChangeSpec := { name := "realsKinds", fn := fun _ => fun
  | [d] => { results := [.lit (.bool true)], args := [d] }
  | _ => none }
def realsKindsRow : OpenClaim := { program := "ytdcodlbelhbihaa", sum := "1384f8e5d36fa2c84fbe2027f9bc04d99c7d3dfb868e2139cda2adbfd1e5bc38", func := "transom/transomlaw02.RealsKinds", spec := "realsKinds", inPlace := ["math.Float64frombits", "math.Float64bits", "math.archTrunc"], apart := false }
def RealsKindsSaid : Prop := realsKindsRow.holds Try.pinned (OpenSpec.ofChange realsKindsSpec)

/-- ITS FALSE NEIGHBOUR: 'it returns false'. Refute it at one input. -/
def realsKindsWrong : ChangeSpec := { name := "realsKinds", fn := fun _ => fun
  | [d] => { results := [.lit (.bool false)], args := [d] }
  | _ => none }
def RealsKindsWrongFalsely : Prop := realsKindsRow.holds Try.pinned (OpenSpec.ofChange realsKindsWrong)

/-- 'transomlaw02.RealsBack': WHATEVER THE INPUT: true; the input reads as it did. -/
def realsBackSpec : ChangeSpec := { name := "realsBack", fn := fun _ => fun
  | [d1, d2] => { results := [.lit (.bool true)], args := [d1, d2] }
  | _ => none }
def realsBackRow : OpenClaim := { program := "ytdcodlbelhbihaa", sum := "1384f8e5d36fa2c84fbe2027f9bc04d99c7d3dfb868e2139cda2adbfd1e5bc38", func := "transom/transomlaw02.RealsBack", spec := "realsBack", inPlace := ["math.Float64frombits", "math.Float64bits", "math.archTrunc"], apart := false }
def RealsBackSaid : Prop := realsBackRow.holds Try.pinned (OpenSpec.ofChange realsBackSpec)

/-- ITS FALSE NEIGHBOUR: 'it returns false'. Refute it at one input. -/
def realsBackWrong : ChangeSpec := { name := "realsBack", fn := fun _ => fun
  | [d1, d2] => { results := [.lit (.bool false)], args := [d1, d2] }
  | _ => none }
def RealsBackWrongFalsely : Prop := realsBackRow.holds Try.pinned (OpenSpec.ofChange realsBackWrong)

/- THE SECOND FORM. 'bulk': how many values and letters a reading holds, each counted each time it is reached (what is shared counts as often as it is met; a slice's spare places count too). A statement '..UptoSaid' is the law's where the arguments, and the package variables that the reading takes, are together of bulk at most 1048576: NARROWER than '..Said'. Prove '..Said' where nothing that the law and all that it calls make is longer than what came in: it says more and counts as full. Else prove '..UptoSaid'. A law counts once. -/
mutual
def uptoBulk {H : Type} : DataW H → Nat
  | .lit (.string bytes) => bytes.length + 1
  | .lit _ => 1
  | .nil => 1
  | .ptr d => uptoBulk d + 1
  | .slice elems spare => uptoBulkAll elems + uptoBulkAll spare + 1
  | .agg parts => uptoBulkAll parts + 1
  | .iface _ d => uptoBulk d + 1
  | .map entries => uptoBulkEntries entries + 1
  | .held _ => 1
def uptoBulkAll {H : Type} : List (DataW H) → Nat
  | [] => 0
  | d :: r => uptoBulk d + uptoBulkAll r
def uptoBulkEntries {H : Type} : List (Lit × DataW H) → Nat
  | [] => 0
  | x :: r => uptoBulkEntry x + uptoBulkEntries r
def uptoBulkEntry {H : Type} : Lit × DataW H → Nat
  | (.string bytes, d) => bytes.length + uptoBulk d + 1
  | (_, d) => uptoBulk d + 1
 end
def uptoSmall : (H : Type) → List (DataW H) → Bool := fun _ ds => decide (uptoBulkAll ds ≤ 1048576)
def OpenSpec.upto (s : _root_.Go.ChangeSpec) : _root_.Go.OpenSpec := { _root_.Go.OpenSpec.ofChange s with cond := some uptoSmall }

/-- 'transomlaw02.RealsTwo', WHERE WHAT IT READS IS OF BULK AT MOST 1048576: true; the input reads as it did. -/
def realsTwoUptoRow : OpenClaim := { program := "ytdcodlbelhbihaa", sum := "1384f8e5d36fa2c84fbe2027f9bc04d99c7d3dfb868e2139cda2adbfd1e5bc38", func := "transom/transomlaw02.RealsTwo", spec := "realsTwo", inPlace := ["math.Float64frombits", "math.Float64bits", "math.archTrunc"], apart := false, narrowed := true }
def RealsTwoUptoSaid : Prop := realsTwoUptoRow.holds Try.pinned (OpenSpec.upto realsTwoSpec)

/-- 'transomlaw02.RealsInts', WHERE WHAT IT READS IS OF BULK AT MOST 1048576: true; the input reads as it did. -/
def realsIntsUptoRow : OpenClaim := { program := "ytdcodlbelhbihaa", sum := "1384f8e5d36fa2c84fbe2027f9bc04d99c7d3dfb868e2139cda2adbfd1e5bc38", func := "transom/transomlaw02.RealsInts", spec := "realsInts", inPlace := ["math.Float64bits", "math.Float64frombits", "math.archTrunc"], apart := false, narrowed := true }
def RealsIntsUptoSaid : Prop := realsIntsUptoRow.holds Try.pinned (OpenSpec.upto realsIntsSpec)

/-- 'transomlaw02.RealsOrder', WHERE WHAT IT READS IS OF BULK AT MOST 1048576: true; the input reads as it did. -/
def realsOrderUptoRow : OpenClaim := { program := "ytdcodlbelhbihaa", sum := "1384f8e5d36fa2c84fbe2027f9bc04d99c7d3dfb868e2139cda2adbfd1e5bc38", func := "transom/transomlaw02.RealsOrder", spec := "realsOrder", inPlace := ["math.Float64bits", "math.Float64frombits", "math.archTrunc"], apart := false, narrowed := true }
def RealsOrderUptoSaid : Prop := realsOrderUptoRow.holds Try.pinned (OpenSpec.upto realsOrderSpec)

/-- 'transomlaw02.RealsThree', WHERE WHAT IT READS IS OF BULK AT MOST 1048576: true; the input reads as it did. -/
def realsThreeUptoRow : OpenClaim := { program := "ytdcodlbelhbihaa", sum := "1384f8e5d36fa2c84fbe2027f9bc04d99c7d3dfb868e2139cda2adbfd1e5bc38", func := "transom/transomlaw02.RealsThree", spec := "realsThree", inPlace := ["math.Float64frombits", "math.Float64bits", "math.archTrunc"], apart := false, narrowed := true }
def RealsThreeUptoSaid : Prop := realsThreeUptoRow.holds Try.pinned (OpenSpec.upto realsThreeSpec)

/-- 'transomlaw02.RealsKinds', WHERE WHAT IT READS IS OF BULK AT MOST 1048576: true; the input reads as it did. -/
def realsKindsUptoRow : OpenClaim := { program := "ytdcodlbelhbihaa", sum := "1384f8e5d36fa2c84fbe2027f9bc04d99c7d3dfb868e2139cda2adbfd1e5bc38", func := "transom/transomlaw02.RealsKinds", spec := "realsKinds", inPlace := ["math.Float64frombits", "math.Float64bits", "math.archTrunc"], apart := false, narrowed := true }
def RealsKindsUptoSaid : Prop := realsKindsUptoRow.holds Try.pinned (OpenSpec.upto realsKindsSpec)

/-- 'transomlaw02.RealsBack', WHERE WHAT IT READS IS OF BULK AT MOST 1048576: true; the input reads as it did. -/
def realsBackUptoRow : OpenClaim := { program := "ytdcodlbelhbihaa", sum := "1384f8e5d36fa2c84fbe2027f9bc04d99c7d3dfb868e2139cda2adbfd1e5bc38", func := "transom/transomlaw02.RealsBack", spec := "realsBack", inPlace := ["math.Float64frombits", "math.Float64bits", "math.archTrunc"], apart := false, narrowed := true }
def RealsBackUptoSaid : Prop := realsBackUptoRow.holds Try.pinned (OpenSpec.upto realsBackSpec)

end Rows
end Go.Proofs.Ytdcodlbelhbihaa
