
/- The keys of reals. -/
import Derived.Test.YtaehpfmnejeddaaGreatDoorF2
import Derived.Test.YtaehpfmnejeddaaGreatDoorF8
import Derived.Test.YtaehpfmnejeddaaGreatDoorVals
namespace Go.Proofs.YtaehpfmnejeddaaGreatDoor.Aev
open Go
set_option linter.unusedVariables false
set_option linter.unusedSimpArgs false
set_option maxRecDepth 100000
def keyU (n : Nat) : Nat := if canon n < 9223372036854775808 then canon n + 9223372036854775808 else 18446744073709551615 - canon n
theorem key_eq {n : Nat} (h : n < 18446744073709551616) (k : Nat) : reals_Key.f k (n : Int) = some (keyU n : Int) := by
  have hc := canon_lt h
  simp only [reals_Key.f, reals_Key.c, canon_eq, Option.bind_some, aTop hc, xNot hc]
  unfold keyU
  by_cases c : canon n < 9223372036854775808
  · rw [if_pos c, oTop c, if_pos c]; rfl
  · rw [if_neg c, if_neg c]; rfl
theorem refkey_eq {n : Nat} (h : n < 18446744073709551616) (k : Nat) : transomref02_Key.f (k + 1) (n : Int) = some (keyU n : Int) := by
  have hc := canon_lt h
  have e1 : Int.fdiv (canon n : Int) 9223372036854775808 = ((canon n / 9223372036854775808 : Nat) : Int) := by rw [Int.fdiv_eq_ediv_of_nonneg _ (by omega)]; omega
  simp only [transomref02_Key.f, transomref02_Key.c, refcanon_eq h, Option.bind_some, xNot hc, e1, cond_true, cond_false, if_b, decide_eq_true_eq, Bool.and_eq_true, Bool.or_eq_true, beq_iff_eq, bne_iff_ne, ne_eq, Bool.not_eq_true', Bool.not_eq_false', Bool.true_and, Bool.and_true, Bool.false_eq_true, if_false, if_true, true_and, and_true, Option.bind_some, Option.bind_none, Option.bind_fun_some, beq_eq_false_iff_ne, decide_eq_false_iff_not, toList_iff]
  unfold keyU
  by_cases c : canon n < 9223372036854775808
  · rw [if_pos (by omega), oTop c, if_pos c]
  · rw [if_neg (by omega), if_neg c]
end Go.Proofs.YtaehpfmnejeddaaGreatDoor.Aev
