
/- Rows read: the program's and the document's ways. -/
import Derived.Test.YtaehpfmnejeddaaGreatDoorF5
import Derived.Test.YtaehpfmnejeddaaGreatDoorF15
import Derived.Test.YtaehpfmnejeddaaGreatDoorRowPut
import Derived.Test.YtaehpfmnejeddaaGreatDoorNumber
namespace Go.Proofs.YtaehpfmnejeddaaGreatDoor.Aev
open Go
set_option linter.unusedVariables false
set_option linter.unusedSimpArgs false
set_option maxRecDepth 100000
abbrev mkB (l : List UInt8) : ByteArray := ByteArray.mk (List.toArray l)
theorem vc (a0 a1 : Int) (n : Nat) (s : ByteArray) {k : Nat} (hk : 120 ≤ k) {a2 : Int} (e : a2 = (n : Int)) : values_Check.f k a0 a1 a2 s = some (checkS a0 a1 n s) := by rw [e]; exact vcheck_eq hk
end Go.Proofs.YtaehpfmnejeddaaGreatDoor.Aev
