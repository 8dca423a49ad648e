/- Package reals as plain functions: keys, their order, which numbers are one. -/
import Derived.Test.YtldhmbaddiandaaPValuesThreex
import Derived.Test.YtldhmbaddiandaaNatBits
namespace Go.Proofs.Ytldhmbaddiandaa.PValuesThree
set_option linter.unusedVariables false
set_option linter.unusedSimpArgs false
open Go.RowKit Go.Proofs.YtldhmbaddiandaaW.PrintWords Go.Proofs.Ytldhmbaddiandaa.Plain

def nan : Nat := 9221120237041090560
def canon (n : Nat) : Nat := if Fl.inf < Fl.rung n then nan else n
def keyU (n : Nat) : Nat := if canon n < 9223372036854775808 then canon n + 9223372036854775808 else 18446744073709551615 - canon n
theorem canon_lt {n : Nat} (h : n < 18446744073709551616) : canon n < 18446744073709551616 := by unfold canon nan; split <;> omega
theorem keyU_lt {n : Nat} (h : n < 18446744073709551616) : keyU n < 18446744073709551616 := by have := canon_lt h; unfold keyU; split <;> omega
theorem canon_eq (n : Nat) : reals_Canon.f (n : Int) = some (canon n : Int) := by
  unfold reals_Canon.f canon nan
  rw [Int.toNat_natCast]
  congr 1
  split <;> rfl
theorem key_eq {n : Nat} (h : n < 18446744073709551616) : reals_Key.f (n : Int) = some (keyU n : Int) := by
  have hc := canon_lt h
  unfold reals_Key.f
  rw [canon_eq, Option.bind_some, and_top hc]
  unfold keyU
  by_cases c : canon n < 9223372036854775808
  · rw [if_pos c, if_pos rfl, if_pos c, or_top c]
  · rw [if_neg c, if_neg (by omega), if_neg c, not_u64 hc]
def cmpU (a b : Nat) : Int := if keyU a < keyU b then -1 else if keyU b < keyU a then 1 else 0
theorem cmp_eq {a b : Nat} (ha : a < 18446744073709551616) (hb : b < 18446744073709551616) : reals_Cmp.f (a : Int) (b : Int) = some (cmpU a b) := by
  unfold reals_Cmp.f cmpU
  rw [key_eq ha, Option.bind_some, key_eq hb, Option.bind_some]
  by_cases c : keyU a < keyU b
  · rw [if_pos (by omega), if_pos c]
  · rw [if_neg (by omega), if_neg c]
    by_cases d : keyU b < keyU a
    · rw [if_pos (by omega), if_pos d]
    · rw [if_neg (by omega), if_neg d]
theorem canon_num {n : Nat} (h : Fl.rung n ≤ Fl.inf) : canon n = n := by unfold canon; rw [if_neg (by omega)]
theorem cmp_neg (a b : Nat) : cmpU a b = wrap64 (-(cmpU b a)) := by
  unfold cmpU wrap64
  split <;> split <;> omega
theorem cmp_zero {a b : Nat} (ha : a < 18446744073709551616) (hb : b < 18446744073709551616) : cmpU a b = 0 ↔ canon a = canon b := by
  have h1 := canon_lt ha
  have h2 := canon_lt hb
  have h3 : keyU a = keyU b ↔ canon a = canon b := by unfold keyU; split <;> split <;> omega
  rw [← h3]
  unfold cmpU
  split
  · omega
  · split <;> omega
theorem nat_of {n : Int} (h : (Lit.int .u64 n).wf = true) : ∃ m : Nat, n = (m : Int) ∧ m < 18446744073709551616 := by
  obtain ⟨h0, h1⟩ := wf_u64 h
  exact ⟨n.toNat, by omega, by omega⟩
end Go.Proofs.Ytldhmbaddiandaa.PValuesThree
