import Derived.Test.YtijjlpgcpdapnaaGreatDoorPl
import Derived.Laws.BitsAllLaws

/- Bits of 64-bit numbers as arithmetic. No program here. -/
namespace Go.Proofs.YtijjlpgcpdapnaaGreatDoor.Aev
open Go
set_option linter.unusedVariables false
set_option linter.unusedSimpArgs false

theorem nat_and_pow (n i : Nat) : n &&& 2 ^ i = (n.testBit i).toNat * 2 ^ i := by
 apply Nat.eq_of_testBit_eq
 intro j
 rw [Nat.testBit_and, Nat.testBit_two_pow]
 by_cases e : i = j
 ·subst e
  cases n.testBit i
  ·simp
  ·simp
 ·rw [decide_eq_false e, Bool.and_false]
  cases n.testBit i
  ·simp
  ·rw [Bool.toNat_true, Nat.one_mul, Nat.testBit_two_pow, decide_eq_false e]
theorem and_top {n : Nat} (h : n < 18446744073709551616) : Go.bits .and .u64 (n : Int) 9223372036854775808 = if n < 9223372036854775808 then 0 else 9223372036854775808 := by
 have h1 := Go.u64_and_nat n 9223372036854775808 h (by omega)
 have h2 : n &&& 9223372036854775808 = (n.testBit 63).toNat * 9223372036854775808 := nat_and_pow n 63
 have h3 : n.testBit 63 = decide (9223372036854775808 ≤ n) := by
  rw [Nat.testBit_eq_decide_div_mod_eq, show (2 : Nat) ^ 63 = 9223372036854775808 from rfl]
  by_cases c : 9223372036854775808 ≤ n
  ·rw [decide_eq_true c, decide_eq_true (by omega)]
  ·rw [decide_eq_false c, decide_eq_false (by omega)]
 rw [h2, h3] at h1
 by_cases c : 9223372036854775808 ≤ n
 ·rw [if_neg (by omega)]; rw [decide_eq_true c] at h1; exact h1
 ·rw [if_pos (by omega)]; rw [decide_eq_false c] at h1; exact h1
theorem not_u64 {n : Nat} (h : n < 18446744073709551616) : Go.bits .xor .u64 IntKind.u64.max (n : Int) = ((18446744073709551615 - n : Nat) : Int) := by
 have h1 := Go.u64_xor_nat 18446744073709551615 n (by omega) h
 have e : 18446744073709551615 ^^^ n = 18446744073709551615 - n := by
  have := congrArg BitVec.toNat (BitVec.allOnes_xor (x := BitVec.ofNat 64 n))
  rw [BitVec.toNat_xor, BitVec.toNat_not, BitVec.toNat_allOnes, BitVec.toNat_ofNat, Nat.mod_eq_of_lt h] at this
  exact this
 rw [e] at h1
 have hm : IntKind.u64.max = 18446744073709551615 := by decide
 rw [hm]
 exact h1
theorem or_sum {a b j : Nat} (hb : b < 2 ^ j) (h : a * 2 ^ j + b < 18446744073709551616) : Go.bits .or .u64 ((a * 2 ^ j : Nat) : Int) (b : Int) = ((a * 2 ^ j + b : Nat) : Int) := by
 rw [Go.u64_or_nat (a * 2 ^ j) b (by omega) (by omega)]
 have := Nat.two_pow_add_eq_or_of_lt hb a
 rw [Nat.mul_comm a, ← this]
theorem or_top {n : Nat} (h : n < 9223372036854775808) : Go.bits .or .u64 (n : Int) 9223372036854775808 = ((n + 9223372036854775808 : Nat) : Int) := by
 have h1 := Go.u64_or_nat n 9223372036854775808 (by omega) (by omega)
 have h2 := Nat.two_pow_add_eq_or_of_lt (i := 63) h 1
 have h3 : n ||| 9223372036854775808 = n + 9223372036854775808 := by
  rw [Nat.or_comm]
  have : 9223372036854775808 ||| n = 9223372036854775808 + n := h2.symm
  rw [this, Nat.add_comm]
 rw [h3] at h1
 exact h1


/- the same, as the evaluator prints it -/
theorem aTop {n : Nat} (h : n < 18446744073709551616) : IntKind.wrap IntKind.u64 ((BitVec.toNat ((BitVec.ofInt (64 : Nat) (n : Int)) &&& (BitVec.ofInt (64 : Nat) (9223372036854775808 : Int)))) : Int) = if n < 9223372036854775808 then 0 else 9223372036854775808 := and_top h
theorem oTop {n : Nat} (h : n < 9223372036854775808) : IntKind.wrap IntKind.u64 ((BitVec.toNat ((BitVec.ofInt (64 : Nat) (n : Int)) ||| (BitVec.ofInt (64 : Nat) (9223372036854775808 : Int)))) : Int) = ((n + 9223372036854775808 : Nat) : Int) := or_top h
theorem xNot {n : Nat} (h : n < 18446744073709551616) : IntKind.wrap IntKind.u64 ((BitVec.toNat ((BitVec.ofInt (64 : Nat) (18446744073709551615 : Int)) ^^^ (BitVec.ofInt (64 : Nat) (n : Int)))) : Int) = ((18446744073709551615 - n : Nat) : Int) := not_u64 h
def turn (n : Nat) : Nat := if n < 9223372036854775808 then n + 9223372036854775808 else n - 9223372036854775808
theorem xTop {n : Nat} (h : n < 18446744073709551616) : IntKind.wrap IntKind.u64 ((BitVec.toNat ((BitVec.ofInt (64 : Nat) (n : Int)) ^^^ (BitVec.ofInt (64 : Nat) (9223372036854775808 : Int)))) : Int) = (turn n : Int) := by
 have h1 := Go.u64_xor_nat n 9223372036854775808 h (by omega)
 have e : n ^^^ 9223372036854775808 = turn n := by
  have hb : ∀ m : Nat, m < 9223372036854775808 → m ^^^ 9223372036854775808 = m + 9223372036854775808 := by
   intro m hm
   have h2 := Nat.two_pow_add_eq_or_of_lt (i := 63) hm 1
   have h3 : 9223372036854775808 ||| m = 9223372036854775808 + m := h2.symm
   apply Nat.eq_of_testBit_eq
   intro j
   have h4 : (m + 9223372036854775808).testBit j = (9223372036854775808 ||| m).testBit j := by rw [h3, Nat.add_comm]
   rw [h4, Nat.testBit_xor, Nat.testBit_or]
   by_cases hj : j = 63
   ·subst hj
    have : m.testBit 63 = false := Nat.testBit_lt_two_pow hm
    rw [this]; rfl
   ·have : (9223372036854775808 : Nat).testBit j = false := by
     rw [show (9223372036854775808 : Nat) = 2 ^ 63 from rfl, Nat.testBit_two_pow]; simp; omega
    rw [this]; simp
  unfold turn
  split
  ·exact hb n ‹_›
  ·have := hb (n - 9223372036854775808) (by omega)
   rw [show n - 9223372036854775808 + 9223372036854775808 = n by omega] at this
   have h9 : (n - 9223372036854775808 ^^^ 9223372036854775808) ^^^ 9223372036854775808 = n - 9223372036854775808 := by rw [Nat.xor_assoc, Nat.xor_self, Nat.xor_zero]
   rw [this] at h9
   exact h9
 rw [e] at h1
 exact h1
theorem nat_of_u64 {n : Int} (h : Fit (.int .u64) n) : ∃ m : Nat, n = (m : Int) ∧ m < 18446744073709551616 := by
 obtain ⟨h0, h1⟩ := fit_u64 h
 exact ⟨n.toNat, by omega, by omega⟩
end Go.Proofs.YtijjlpgcpdapnaaGreatDoor.Aev
