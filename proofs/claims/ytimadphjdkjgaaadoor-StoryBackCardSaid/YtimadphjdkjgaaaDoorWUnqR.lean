import Derived.Test.YtimadphjdkjgaaaDoorWUnq

/- Quoted texts read again: the document's way. -/

namespace Go.Proofs.YtimadphjdkjgaaaDoor.Aev
open Go
set_option linter.unusedVariables false
set_option linter.unusedSimpArgs false
set_option maxRecDepth 100000
end Go.Proofs.YtimadphjdkjgaaaDoor.Aev
