import Derived.Test.YtijjlpgcpdapnaaGreatDoorBa

/- Numbers of eight bytes. -/

namespace Go.Proofs.YtijjlpgcpdapnaaGreatDoor.Aev
open Go
set_option linter.unusedVariables false
set_option linter.unusedSimpArgs false
set_option maxRecDepth 100000
theorem numB8_lt (l : List UInt8) : numB (l.take 8) < 18446744073709551616 := by
 have := numB_lt (l.take 8)
 have h2 : 256 ^ (l.take 8).length ≤ 256 ^ 8 := Nat.pow_le_pow_right (by omega) (by simp; omega)
 omega
end Go.Proofs.YtijjlpgcpdapnaaGreatDoor.Aev
