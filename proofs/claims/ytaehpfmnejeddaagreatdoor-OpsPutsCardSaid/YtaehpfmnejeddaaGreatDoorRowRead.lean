
/- Rows read: the program's and the document's ways. -/
import Derived.Test.YtaehpfmnejeddaaGreatDoorF5
import Derived.Test.YtaehpfmnejeddaaGreatDoorF15
import Derived.Test.YtaehpfmnejeddaaGreatDoorRowPut
import Derived.Test.YtaehpfmnejeddaaGreatDoorNumber
namespace Go.Proofs.YtaehpfmnejeddaaGreatDoor.Aev
open Go
set_option linter.unusedVariables false
set_option linter.unusedSimpArgs false
set_option maxRecDepth 100000
abbrev mkB (l : List UInt8) : ByteArray := ByteArray.mk (List.toArray l)
end Go.Proofs.YtaehpfmnejeddaaGreatDoor.Aev
