
/- Bits of 64-bit numbers as arithmetic. No program here. -/
import Derived.Test.YtijjlpgcpdapnaaGreatDoorPl
import Derived.Laws.BitsAllLaws
namespace Go.Proofs.YtijjlpgcpdapnaaGreatDoor.Aev
open Go
set_option linter.unusedVariables false
set_option linter.unusedSimpArgs false

theorem and_mask {n m j : Nat} (hm : m = 2 ^ j - 1) (h : n < 18446744073709551616) (hj : m < 18446744073709551616) : Go.bits .and .u64 (n : Int) (m : Int) = ((n % 2 ^ j : Nat) : Int) := by
  have h1 := Go.u64_and_nat n m h hj
  rw [h1, hm, Nat.and_two_pow_sub_one_eq_mod]
theorem and_52 {n : Nat} (h : n < 18446744073709551616) : Go.bits .and .u64 (n : Int) 4503599627370495 = ((n % 4503599627370496 : Nat) : Int) :=
  and_mask (m := 4503599627370495) (j := 52) rfl h (by omega)
theorem and_11 {n : Nat} (h : n < 18446744073709551616) : Go.bits .and .u64 (n : Int) 2047 = ((n % 2048 : Nat) : Int) :=
  and_mask (m := 2047) (j := 11) rfl h (by omega)
theorem and_1 {n : Nat} (h : n < 18446744073709551616) : Go.bits .and .u64 (n : Int) 1 = ((n % 2 : Nat) : Int) :=
  and_mask (m := 1) (j := 1) rfl h (by omega)
theorem or_sum {a b j : Nat} (hb : b < 2 ^ j) (h : a * 2 ^ j + b < 18446744073709551616) : Go.bits .or .u64 ((a * 2 ^ j : Nat) : Int) (b : Int) = ((a * 2 ^ j + b : Nat) : Int) := by
  rw [Go.u64_or_nat (a * 2 ^ j) b (by omega) (by omega)]
  have := Nat.two_pow_add_eq_or_of_lt hb a
  rw [Nat.mul_comm a, ← this]
/- the same, as the evaluator prints it -/
theorem a52 {n : Nat} (h : n < 18446744073709551616) : IntKind.wrap IntKind.u64 ((BitVec.toNat ((BitVec.ofInt (64 : Nat) (n : Int)) &&& (BitVec.ofInt (64 : Nat) (4503599627370495 : Int)))) : Int) = ((n % 4503599627370496 : Nat) : Int) := and_52 h
theorem a11 {n : Nat} (h : n < 18446744073709551616) : IntKind.wrap IntKind.u64 ((BitVec.toNat ((BitVec.ofInt (64 : Nat) (n : Int)) &&& (BitVec.ofInt (64 : Nat) (2047 : Int)))) : Int) = ((n % 2048 : Nat) : Int) := and_11 h
theorem nat_of_u64 {n : Int} (h : Fit (.int .u64) n) : ∃ m : Nat, n = (m : Int) ∧ m < 18446744073709551616 := by
  obtain ⟨h0, h1⟩ := fit_u64 h
  exact ⟨n.toNat, by omega, by omega⟩
end Go.Proofs.YtijjlpgcpdapnaaGreatDoor.Aev
