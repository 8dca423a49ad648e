import Derived.Test.YtijjlpgcpdapnaaGreatDoorKeyRow

/- Rows that are the same. -/

namespace Go.Proofs.YtijjlpgcpdapnaaGreatDoor.Aev
open Go
set_option linter.unusedVariables false
set_option linter.unusedSimpArgs false
set_option maxRecDepth 100000
end Go.Proofs.YtijjlpgcpdapnaaGreatDoor.Aev
