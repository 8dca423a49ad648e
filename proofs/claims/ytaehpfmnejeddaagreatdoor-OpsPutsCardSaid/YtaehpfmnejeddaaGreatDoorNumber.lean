
/- Numbers of eight bytes. -/
import Derived.Test.YtaehpfmnejeddaaGreatDoorF9
import Derived.Test.YtaehpfmnejeddaaGreatDoorBa
namespace Go.Proofs.YtaehpfmnejeddaaGreatDoor.Aev
open Go
set_option linter.unusedVariables false
set_option linter.unusedSimpArgs false
set_option maxRecDepth 100000
end Go.Proofs.YtaehpfmnejeddaaGreatDoor.Aev
