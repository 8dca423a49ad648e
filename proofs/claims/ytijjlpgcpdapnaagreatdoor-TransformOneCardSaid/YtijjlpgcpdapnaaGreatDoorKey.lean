
/- Values as bytes that keep their order: the program's and the document's ways, as one list of bytes. -/

import Derived.Test.YtijjlpgcpdapnaaGreatDoorKeyU
import Derived.Test.YtijjlpgcpdapnaaGreatDoorEight
import Derived.Test.YtijjlpgcpdapnaaGreatDoorEsc
namespace Go.Proofs.YtijjlpgcpdapnaaGreatDoor.Aev
open Go
set_option linter.unusedVariables false
set_option linter.unusedSimpArgs false
set_option maxRecDepth 100000
end Go.Proofs.YtijjlpgcpdapnaaGreatDoor.Aev
