
/- Rows as bytes that keep their order: the program's and the document's ways. -/

import Derived.Test.YtijjlpgcpdapnaaGreatDoorKey
import Derived.Test.YtijjlpgcpdapnaaGreatDoorFew
namespace Go.Proofs.YtijjlpgcpdapnaaGreatDoor.Aev
open Go
set_option linter.unusedVariables false
set_option linter.unusedSimpArgs false
set_option maxRecDepth 100000
noncomputable def chk (v : V) : Int := checkS v.1 v.2.1 v.2.2.1.toNat v.2.2.2.1
end Go.Proofs.YtijjlpgcpdapnaaGreatDoor.Aev
