
/- The keys of reals. -/
import Derived.Test.YtdbbkmmillnaiaaDoorF6
import Derived.Test.YtdbbkmmillnaiaaDoorVals
namespace Go.Proofs.YtdbbkmmillnaiaaDoor.Aev
open Go
set_option linter.unusedVariables false
set_option linter.unusedSimpArgs false
set_option maxRecDepth 100000
def keyU (n : Nat) : Nat := if canon n < 9223372036854775808 then canon n + 9223372036854775808 else 18446744073709551615 - canon n
theorem keyU_lt {n : Nat} (h : n < 18446744073709551616) : keyU n < 18446744073709551616 := by have := canon_lt h; unfold keyU; split <;> omega
theorem key_eq {n : Nat} (h : n < 18446744073709551616) (k : Nat) : reals_Key.f k (n : Int) = some (keyU n : Int) := by
  have hc := canon_lt h
  simp only [reals_Key.f, reals_Key.c, canon_eq, Option.bind_some, aTop hc, xNot hc]
  unfold keyU
  by_cases c : canon n < 9223372036854775808
  · rw [if_pos c, oTop c, if_pos c]; rfl
  · rw [if_neg c, if_neg c]; rfl
end Go.Proofs.YtdbbkmmillnaiaaDoor.Aev
