/- The document's classes of reals as plain functions. -/
import Derived.Test.YtldhmbaddiandaaBValuesTwoValsKey
namespace Go.Proofs.Ytldhmbaddiandaa.PValuesTwo
set_option linter.unusedVariables false
set_option linter.unusedSimpArgs false
open Go.RowKit Go.Proofs.YtldhmbaddiandaaW.PrintWords Go.Proofs.Ytldhmbaddiandaa.Plain

def classOf (n : Nat) : Int := if Fl.inf < Fl.rung n then 1 else if Fl.rung n = Fl.inf then 2 else if Fl.rung n = 0 then 3 else if Fl.rung n < 4503599627370496 then 4 else 5
theorem exp_eq {n : Nat} (h : n < 18446744073709551616) : transomref02_exponent.f (n : Int) = some ((Fl.rung n / 4503599627370496 : Nat) : Int) := by
  have e1 : (n : Int) / 4503599627370496 = ((n / 4503599627370496 : Nat) : Int) := by omega
  have e2 : n / 4503599627370496 % 2048 = Fl.rung n / 4503599627370496 := by unfold Fl.rung; omega
  unfold transomref02_exponent.f
  rw [e1, and_11 (by omega), e2, w64id (by unfold Fl.rung; omega) (by unfold Fl.rung; omega)]
theorem frac_eq {n : Nat} (h : n < 18446744073709551616) : transomref02_fraction.f (n : Int) = some ((Fl.rung n % 4503599627370496 : Nat) : Int) := by
  have e2 : n % 4503599627370496 = Fl.rung n % 4503599627370496 := by unfold Fl.rung; omega
  unfold transomref02_fraction.f
  rw [and_52 h, e2]
theorem rung_lt (n : Nat) : Fl.rung n < 9223372036854775808 := by unfold Fl.rung; omega
theorem refclass_eq {n : Nat} (h : n < 18446744073709551616) (k : Nat) : transomref02_Class.f (k + 2) (n : Int) = some (classOf n) := by
  have hr := rung_lt n
  have hi : Fl.inf = 9218868437227405312 := rfl
  have j1 : ∀ f : Bool, transomref02_Class.j1 (k + 1) (n : Int) f = some (if f = true then 3 else if Fl.rung n < 4503599627370496 then 4 else 5) := by
    intro f
    rw [transomref02_Class.j1, exp_eq h, Option.bind_some]
    cases f
    · simp only [Bool.false_eq_true, if_false]
      by_cases c : Fl.rung n < 4503599627370496
      · rw [if_pos c, if_pos (by omega)]
      · rw [if_neg c, if_neg (by omega)]
    · simp only [if_true]
  have j0 : transomref02_Class.j0 (k + 2) (n : Int) false = some (if Fl.rung n / 4503599627370496 = 2047 then 2 else if Fl.rung n = 0 then 3 else if Fl.rung n < 4503599627370496 then 4 else 5) := by
    rw [transomref02_Class.j0, exp_eq h, Option.bind_some, Option.bind_some, frac_eq h, Option.bind_some, j1, j1]
    simp only [Bool.false_eq_true, if_false]
    by_cases c : Fl.rung n / 4503599627370496 = 2047
    · rw [if_pos c, if_pos (by omega)]
    · rw [if_neg c, if_neg (show ¬ ((Fl.rung n / 4503599627370496 : Nat) : Int) = 2047 by omega)]
      by_cases d : Fl.rung n / 4503599627370496 = 0
      · rw [if_pos (show ((Fl.rung n / 4503599627370496 : Nat) : Int) = 0 by omega)]
        by_cases e : Fl.rung n = 0
        · rw [if_pos e, e]; rfl
        · rw [if_neg e, beq_eq_false_iff_ne.2 (by omega)]
          simp only [Bool.false_eq_true, if_false]
      · rw [if_neg (show ¬ ((Fl.rung n / 4503599627370496 : Nat) : Int) = 0 by omega), if_neg (show ¬ Fl.rung n = 0 by omega)]
  unfold transomref02_Class.f
  rw [exp_eq h, Option.bind_some, frac_eq h, Option.bind_some]
  by_cases c : Fl.rung n / 4503599627370496 = 2047
  · rw [if_pos (by omega)]
    by_cases d : Fl.rung n % 4503599627370496 = 0
    · rw [show (((Fl.rung n % 4503599627370496 : Nat) : Int) != 0) = false by rw [bne_eq_false_iff_eq]; omega, j0, if_pos c]
      unfold classOf
      rw [if_neg (by omega), if_pos (by omega)]
    · rw [show (((Fl.rung n % 4503599627370496 : Nat) : Int) != 0) = true by rw [bne_iff_ne]; omega, transomref02_Class.j0]
      unfold classOf
      rw [if_pos rfl, if_pos (show Fl.inf < Fl.rung n by omega)]
  · rw [if_neg (by omega), j0, if_neg c]
    unfold classOf
    rw [if_neg (show ¬ Fl.inf < Fl.rung n by omega), if_neg (show ¬ Fl.rung n = Fl.inf by omega)]
theorem class_nan {n : Nat} : classOf n = 1 ↔ Fl.inf < Fl.rung n := by
  unfold classOf; split
  · constructor <;> intro <;> first | assumption | rfl
  · constructor
    · intro h; split at h
      · omega
      · split at h
        · omega
        · split at h <;> omega
    · intro h; omega
theorem class_zero {n : Nat} : classOf n = 3 ↔ Fl.rung n = 0 := by
  have hi : Fl.inf = 9218868437227405312 := rfl
  unfold classOf
  split
  · constructor <;> intro <;> omega
  · split
    · constructor <;> intro <;> omega
    · split
      · constructor <;> intro <;> first | assumption | rfl
      · split <;> constructor <;> intro <;> omega
theorem refcanon_eq {n : Nat} (h : n < 18446744073709551616) (k : Nat) : transomref02_Canon.f (k + 2) (n : Int) = some (canon n : Int) := by
  unfold transomref02_Canon.f canon nan
  rw [refclass_eq h, Option.bind_some]
  by_cases c : Fl.inf < Fl.rung n
  · rw [if_pos (class_nan.2 c), if_pos c]; rfl
  · rw [if_neg (fun q => c (class_nan.1 q)), if_neg c]
end Go.Proofs.Ytldhmbaddiandaa.PValuesTwo
