
/- Rows as bytes that keep their order: the program's and the document's ways. -/

import Derived.Test.YtaehpfmnejeddaaGreatDoorKey
import Derived.Test.YtaehpfmnejeddaaGreatDoorFew
namespace Go.Proofs.YtaehpfmnejeddaaGreatDoor.Aev
open Go
set_option linter.unusedVariables false
set_option linter.unusedSimpArgs false
set_option maxRecDepth 100000
def kb (v : V) : List Int := kputI v.1 v.2.1 v.2.2.1.toNat v.2.2.2.1.data.toList
end Go.Proofs.YtaehpfmnejeddaaGreatDoor.Aev
