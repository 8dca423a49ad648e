
/- Rows read: whole rows; what is written is read, what is read was written so. -/
import Derived.Test.YtaehpfmnejeddaaGreatDoorF5
import Derived.Test.YtaehpfmnejeddaaGreatDoorF15
import Derived.Test.YtaehpfmnejeddaaGreatDoorRowRead
namespace Go.Proofs.YtaehpfmnejeddaaGreatDoor.Aev
open Go
set_option linter.unusedVariables false
set_option linter.unusedSimpArgs false
set_option maxRecDepth 100000
/-! ### what is read was written so -/
/-! ### what is written is read -/
end Go.Proofs.YtaehpfmnejeddaaGreatDoor.Aev
