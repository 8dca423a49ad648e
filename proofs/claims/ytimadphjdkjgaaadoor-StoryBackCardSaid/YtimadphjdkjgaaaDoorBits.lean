import Derived.Test.YtimadphjdkjgaaaDoorPl
import Derived.Laws.BitsAllLaws

/- Bits of 64-bit numbers as arithmetic. No program here. -/
namespace Go.Proofs.YtimadphjdkjgaaaDoor.Aev
open Go
set_option linter.unusedVariables false
set_option linter.unusedSimpArgs false

theorem and_mask {n m j : Nat} (hm : m = 2 ^ j - 1) (h : n < 18446744073709551616) (hj : m < 18446744073709551616) : Go.bits .and .u64 (n : Int) (m : Int) = ((n % 2 ^ j : Nat) : Int) := by
 have h1 := Go.u64_and_nat n m h hj
 rw [h1, hm, Nat.and_two_pow_sub_one_eq_mod]
theorem or_sum {a b j : Nat} (hb : b < 2 ^ j) (h : a * 2 ^ j + b < 18446744073709551616) : Go.bits .or .u64 ((a * 2 ^ j : Nat) : Int) (b : Int) = ((a * 2 ^ j + b : Nat) : Int) := by
 rw [Go.u64_or_nat (a * 2 ^ j) b (by omega) (by omega)]
 have := Nat.two_pow_add_eq_or_of_lt hb a
 rw [Nat.mul_comm a, ← this]
/- the same, as the evaluator prints it -/
theorem nat_of_u64 {n : Int} (h : Fit (.int .u64) n) : ∃ m : Nat, n = (m : Int) ∧ m < 18446744073709551616 := by
 obtain ⟨h0, h1⟩ := fit_u64 h
 exact ⟨n.toNat, by omega, by omega⟩
end Go.Proofs.YtimadphjdkjgaaaDoor.Aev
