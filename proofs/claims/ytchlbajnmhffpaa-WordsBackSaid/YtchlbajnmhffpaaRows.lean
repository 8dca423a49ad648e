/-
  No cell of these rows narrows 'for every input' (looked for: loops, veiled, ifaces, maps, wideKeys, modest, calm, conditions, laid).
  DERIVED. THE GIVEN ROWS OF THIS SEAT. 4 by the template 'for every input the law returns true; each argument reads behind the call as it read before'; 0 by the template 'total and deterministic' (their statements: YtchlbajnmhffpaaTotals.lean).
  GIVEN WITH THE SEED: the statements are not yours to turn. If you find one false, say at which input.
  Laid BY PROGRAM, IN A SANDBOX (cutbox-rows.mjs): the forced cells as the released guide's own fill.sh prints them over the translation 75919bc104d573ee… (all of the seat's roots in one cut). By AI agents, Wed Nov 11 2026. No macro, syntax, notation, axiom, sorry.
-/
import Derived.Test.YtchlbajnmhffpaaChecked
import GoSem.Claim
import GoSem.ClaimJoined
import GoSem.ClaimMapViews
import Derived.JoinedTies
import Derived.KernelRfl
namespace Go.Proofs.Ytchlbajnmhffpaa
/- THE CELL 'sum', in the pinned program and in every row, IS THE sha256 OF THE DUMP (.gsa) THAT YtchlbajnmhffpaaProg.lean LOADS. Nothing in Lean hashes anything: it is a label: what it is worth is what the hold of that sum in a sandbox is worth. -/
noncomputable def Try.pinned : Pinned := { name := "ytchlbajnmhffpaa", sum := "75919bc104d573eeace67b6028ba6e54d426b58e7cbb5d520f55b8c9d1a4a5ff", checked := Try.checked }
namespace Rows
def none {H : Type} : Left H := { results := [], args := [] }

/-- 'transomlaw36.WordsSplits': WHATEVER THE INPUT: true; the input reads as it did. -/
def wordsSplitsSpec : ChangeSpec := { name := "wordsSplits", fn := fun _ => fun
  | [d] => { results := [.lit (.bool true)], args := [d] }
  | _ => none }
def wordsSplitsRow : OpenClaim := { program := "ytchlbajnmhffpaa", sum := "75919bc104d573eeace67b6028ba6e54d426b58e7cbb5d520f55b8c9d1a4a5ff", func := "transom/transomlaw36.WordsSplits", spec := "wordsSplits", inPlace := ["math.Float64frombits"], apart := false }
def WordsSplitsSaid : Prop := wordsSplitsRow.holds Try.pinned (OpenSpec.ofChange wordsSplitsSpec)

/-- ITS FALSE NEIGHBOUR: 'it returns false'. Refute it at one input. -/
def wordsSplitsWrong : ChangeSpec := { name := "wordsSplits", fn := fun _ => fun
  | [d] => { results := [.lit (.bool false)], args := [d] }
  | _ => none }
def WordsSplitsWrongFalsely : Prop := wordsSplitsRow.holds Try.pinned (OpenSpec.ofChange wordsSplitsWrong)

/-- 'transomlaw36.WordsQuotes': WHATEVER THE INPUT: true; the input reads as it did. -/
def wordsQuotesSpec : ChangeSpec := { name := "wordsQuotes", fn := fun _ => fun
  | [d] => { results := [.lit (.bool true)], args := [d] }
  | _ => none }
def wordsQuotesRow : OpenClaim := { program := "ytchlbajnmhffpaa", sum := "75919bc104d573eeace67b6028ba6e54d426b58e7cbb5d520f55b8c9d1a4a5ff", func := "transom/transomlaw36.WordsQuotes", spec := "wordsQuotes", inPlace := ["math.Float64frombits"], apart := false }
def WordsQuotesSaid : Prop := wordsQuotesRow.holds Try.pinned (OpenSpec.ofChange wordsQuotesSpec)

/-- ITS FALSE NEIGHBOUR: 'it returns false'. Refute it at one input. -/
def wordsQuotesWrong : ChangeSpec := { name := "wordsQuotes", fn := fun _ => fun
  | [d] => { results := [.lit (.bool false)], args := [d] }
  | _ => none }
def WordsQuotesWrongFalsely : Prop := wordsQuotesRow.holds Try.pinned (OpenSpec.ofChange wordsQuotesWrong)

/-- 'transomlaw36.WordsValues': WHATEVER THE INPUT: true; the input reads as it did. -/
def wordsValuesSpec : ChangeSpec := { name := "wordsValues", fn := fun _ => fun
  | [d1, d2] => { results := [.lit (.bool true)], args := [d1, d2] }
  | _ => none }
def wordsValuesRow : OpenClaim := { program := "ytchlbajnmhffpaa", sum := "75919bc104d573eeace67b6028ba6e54d426b58e7cbb5d520f55b8c9d1a4a5ff", func := "transom/transomlaw36.WordsValues", spec := "wordsValues", inPlace := ["math.Float64frombits"], apart := false }
def WordsValuesSaid : Prop := wordsValuesRow.holds Try.pinned (OpenSpec.ofChange wordsValuesSpec)

/-- ITS FALSE NEIGHBOUR: 'it returns false'. Refute it at one input. -/
def wordsValuesWrong : ChangeSpec := { name := "wordsValues", fn := fun _ => fun
  | [d1, d2] => { results := [.lit (.bool false)], args := [d1, d2] }
  | _ => none }
def WordsValuesWrongFalsely : Prop := wordsValuesRow.holds Try.pinned (OpenSpec.ofChange wordsValuesWrong)

/-- 'transomlaw36.WordsBack': WHATEVER THE INPUT: true; the input reads as it did. -/
def wordsBackSpec : ChangeSpec := { name := "wordsBack", fn := fun _ => fun
  | [d] => { results := [.lit (.bool true)], args := [d] }
  | _ => none }
def wordsBackRow : OpenClaim := { program := "ytchlbajnmhffpaa", sum := "75919bc104d573eeace67b6028ba6e54d426b58e7cbb5d520f55b8c9d1a4a5ff", func := "transom/transomlaw36.WordsBack", spec := "wordsBack", inPlace := ["math.Float64frombits"], apart := false }
def WordsBackSaid : Prop := wordsBackRow.holds Try.pinned (OpenSpec.ofChange wordsBackSpec)

/-- ITS FALSE NEIGHBOUR: 'it returns false'. Refute it at one input. -/
def wordsBackWrong : ChangeSpec := { name := "wordsBack", fn := fun _ => fun
  | [d] => { results := [.lit (.bool false)], args := [d] }
  | _ => none }
def WordsBackWrongFalsely : Prop := wordsBackRow.holds Try.pinned (OpenSpec.ofChange wordsBackWrong)

/- THE SECOND FORM. 'bulk': how many values and letters a reading holds, each counted each time it is reached (what is shared counts as often as it is met; a slice's spare places count too). A statement '..UptoSaid' is the law's where the arguments, and the package variables that the reading takes, are together of bulk at most 1048576: NARROWER than '..Said'. Prove '..Said' where nothing that the law and all that it calls make is longer than what came in: it says more and counts as full. Else prove '..UptoSaid'. A law counts once. -/
mutual
def uptoBulk {H : Type} : DataW H → Nat
  | .lit (.string bytes) => bytes.length + 1
  | .lit _ => 1
  | .nil => 1
  | .ptr d => uptoBulk d + 1
  | .slice elems spare => uptoBulkAll elems + uptoBulkAll spare + 1
  | .agg parts => uptoBulkAll parts + 1
  | .iface _ d => uptoBulk d + 1
  | .map entries => uptoBulkEntries entries + 1
  | .held _ => 1
def uptoBulkAll {H : Type} : List (DataW H) → Nat
  | [] => 0
  | d :: r => uptoBulk d + uptoBulkAll r
def uptoBulkEntries {H : Type} : List (Lit × DataW H) → Nat
  | [] => 0
  | x :: r => uptoBulkEntry x + uptoBulkEntries r
def uptoBulkEntry {H : Type} : Lit × DataW H → Nat
  | (.string bytes, d) => bytes.length + uptoBulk d + 1
  | (_, d) => uptoBulk d + 1
 end
def uptoSmall : (H : Type) → List (DataW H) → Bool := fun _ ds => decide (uptoBulkAll ds ≤ 1048576)
def OpenSpec.upto (s : _root_.Go.ChangeSpec) : _root_.Go.OpenSpec := { _root_.Go.OpenSpec.ofChange s with cond := some uptoSmall }

/-- 'transomlaw36.WordsSplits', WHERE WHAT IT READS IS OF BULK AT MOST 1048576: true; the input reads as it did. -/
def wordsSplitsUptoRow : OpenClaim := { program := "ytchlbajnmhffpaa", sum := "75919bc104d573eeace67b6028ba6e54d426b58e7cbb5d520f55b8c9d1a4a5ff", func := "transom/transomlaw36.WordsSplits", spec := "wordsSplits", inPlace := ["math.Float64frombits"], apart := false, narrowed := true }
def WordsSplitsUptoSaid : Prop := wordsSplitsUptoRow.holds Try.pinned (OpenSpec.upto wordsSplitsSpec)

/-- 'transomlaw36.WordsQuotes', WHERE WHAT IT READS IS OF BULK AT MOST 1048576: true; the input reads as it did. -/
def wordsQuotesUptoRow : OpenClaim := { program := "ytchlbajnmhffpaa", sum := "75919bc104d573eeace67b6028ba6e54d426b58e7cbb5d520f55b8c9d1a4a5ff", func := "transom/transomlaw36.WordsQuotes", spec := "wordsQuotes", inPlace := ["math.Float64frombits"], apart := false, narrowed := true }
def WordsQuotesUptoSaid : Prop := wordsQuotesUptoRow.holds Try.pinned (OpenSpec.upto wordsQuotesSpec)

/-- 'transomlaw36.WordsValues', WHERE WHAT IT READS IS OF BULK AT MOST 1048576: true; the input reads as it did. -/
def wordsValuesUptoRow : OpenClaim := { program := "ytchlbajnmhffpaa", sum := "75919bc104d573eeace67b6028ba6e54d426b58e7cbb5d520f55b8c9d1a4a5ff", func := "transom/transomlaw36.WordsValues", spec := "wordsValues", inPlace := ["math.Float64frombits"], apart := false, narrowed := true }
def WordsValuesUptoSaid : Prop := wordsValuesUptoRow.holds Try.pinned (OpenSpec.upto wordsValuesSpec)

/-- 'transomlaw36.WordsBack', WHERE WHAT IT READS IS OF BULK AT MOST 1048576: true; the input reads as it did. -/
def wordsBackUptoRow : OpenClaim := { program := "ytchlbajnmhffpaa", sum := "75919bc104d573eeace67b6028ba6e54d426b58e7cbb5d520f55b8c9d1a4a5ff", func := "transom/transomlaw36.WordsBack", spec := "wordsBack", inPlace := ["math.Float64frombits"], apart := false, narrowed := true }
def WordsBackUptoSaid : Prop := wordsBackUptoRow.holds Try.pinned (OpenSpec.upto wordsBackSpec)

end Rows
end Go.Proofs.Ytchlbajnmhffpaa
