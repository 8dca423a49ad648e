import Derived.Test.YtimadphjdkjgaaaDoorAevX
import Derived.RangeFuncNested
import Derived.RangeFuncBound
import Derived.RangeFuncCalls
import Derived.RangeFuncLeaves
import Derived.Shelf.Abstract
import Derived.OwnWalkIn
/- AEV: plain regions in any fence; memory over a part of a function; for ranges over functions. -/
namespace Go.Proofs.YtimadphjdkjgaaaDoor.Aev
set_option linter.unusedVariables false
set_option linter.unusedSimpArgs false
open Go

section
variable {E : Env} {ops : Array Oper} {base : Nat} {X : Cx} {o : Oper} {x : Out} {le : LogE}

end

section
variable {X : Cx} {w w' : World} {S S' : Nat → Prop} {ρ ρ' : Nat → Option Value} {H H' : Nat → Option Nat} {blk blk' : Nat → Option (Option Blk)}
theorem Mem.below (h : Mem X w S ρ H blk) (hb : RowKit.Below w.heap.size w w') : Mem X w' S ρ H blk := h.later hb.size hb.block hb.os hb.tape hb.output
def Blk.isMp : Blk → Bool
 | .mp _ _ _ => true
 | _ => false
theorem RepBlk.cells {n b : Nat} {B : Blk} (h : RepBlk w S ρ n (some b) B) (hB : B.isMp = false) : ∃ vs e, w.heap[b]? = some (.cells vs e (0, 0)) := by
 cases B with
 | box cs => obtain ⟨b', vs, e, h1, _, h2, _⟩ := h; cases h1; exact ⟨vs, e, h2⟩
 | own t x xs =>
  obtain ⟨v, _, ⟨b', h1, h2⟩ | ⟨_, h1, _⟩⟩ := h
  ·cases h1
   obtain ⟨_, _, vs, e, _, _, _, h3, _⟩ := h2
   exact ⟨vs, e, h3⟩
  ·cases h1
 | settled t xs => obtain ⟨v, _, h1, _⟩ := h; cases h1
 | mp kt et es => cases hB
end
end Go.Proofs.YtimadphjdkjgaaaDoor.Aev
