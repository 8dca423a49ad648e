import Derived.Test.YtimadphjdkjgaaaDoorF3
import Derived.Test.YtimadphjdkjgaaaDoorLineB

/- Steps as lines: the document's words; and that the program's lines are these. -/
namespace Go.Proofs.YtimadphjdkjgaaaDoor.Aev
open Go
set_option linter.unusedVariables false
set_option linter.unusedSimpArgs false
set_option maxRecDepth 100000
theorem ne_beq {a : Int} (h : a = 0) : (a != 0) = false := by rw [h]; rfl
theorem ne_bne {a : Int} (h : ¬ a = 0) : (a != 0) = true := bne_iff_ne.2 h
end Go.Proofs.YtimadphjdkjgaaaDoor.Aev
