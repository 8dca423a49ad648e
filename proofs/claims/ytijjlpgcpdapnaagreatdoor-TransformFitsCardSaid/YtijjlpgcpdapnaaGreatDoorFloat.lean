import Ieee.Arith
import GoSem.Core.Float

/- What the comparisons of floats say of their bits: the order of words is the order of their keys. No program here. -/
namespace Go.Proofs.YtijjlpgcpdapnaaGreatDoor.Fl
set_option linter.unusedVariables false
set_option linter.unusedSimpArgs false
open Ieee

def rung (b : Nat) : Nat := b % 9223372036854775808
def neg (b : Nat) : Bool := b / 9223372036854775808 % 2 == 1
def inf : Nat := 9218868437227405312
def key (b : Nat) : Int := if neg b = true then -(rung b : Int) else (rung b : Int)

theorem sw : double.signWeight = 9223372036854775808 := by decide
theorem bi : double.binade = 4503599627370496 := by decide
theorem ir : double.infRung = 9218868437227405312 := by decide
theorem lp : double.leastPlace = -1074 := by decide

def V (r : Nat) : Nat := if r < 4503599627370496 then r else (4503599627370496 + r % 4503599627370496) * 2 ^ (r / 4503599627370496 - 1)
theorem V_zero : V 0 = 0 := rfl
theorem V_lt {r s : Nat} (h : r < s) : V r < V s := by
 unfold V
 by_cases hs : s < 4503599627370496
 ·rw [if_pos hs, if_pos (by omega)]; exact h
 ·rw [if_neg hs]
  have p1 : 1 ≤ 2 ^ (s / 4503599627370496 - 1) := Nat.one_le_two_pow
  by_cases hr : r < 4503599627370496
  ·rw [if_pos hr]
   calc r < 4503599627370496 + s % 4503599627370496 := by omega
    _ ≤ (4503599627370496 + s % 4503599627370496) * 2 ^ (s / 4503599627370496 - 1) := Nat.le_mul_of_pos_right _ (by omega)
  ·rw [if_neg hr]
   by_cases hq : r / 4503599627370496 = s / 4503599627370496
   ·rw [hq]
    exact Nat.mul_lt_mul_of_pos_right (by omega) (by omega)
   ·have hle : r / 4503599627370496 - 1 + 1 ≤ s / 4503599627370496 - 1 := by omega
    have p2 : 2 ^ (r / 4503599627370496 - 1 + 1) ≤ 2 ^ (s / 4503599627370496 - 1) := Nat.pow_le_pow_right (by omega) hle
    have p3 : 1 ≤ 2 ^ (r / 4503599627370496 - 1) := Nat.one_le_two_pow
    calc (4503599627370496 + r % 4503599627370496) * 2 ^ (r / 4503599627370496 - 1)
      < 9007199254740992 * 2 ^ (r / 4503599627370496 - 1) := Nat.mul_lt_mul_of_pos_right (by omega) (by omega)
     _ = 4503599627370496 * 2 ^ (r / 4503599627370496 - 1 + 1) := by rw [Nat.pow_succ]; omega
     _ ≤ 4503599627370496 * 2 ^ (s / 4503599627370496 - 1) := Nat.mul_le_mul_left _ p2
     _ ≤ (4503599627370496 + s % 4503599627370496) * 2 ^ (s / 4503599627370496 - 1) := Nat.mul_le_mul_right _ (by omega)
theorem V_lt_iff {r s : Nat} : V r < V s ↔ r < s := by
 constructor
 ·intro h
  rcases Nat.lt_trichotomy r s with c | c | c
  ·exact c
  ·subst c; omega
  ·have := V_lt c; omega
 ·exact V_lt
theorem V_inj {r s : Nat} : V r = V s ↔ r = s := by
 constructor
 ·intro h
  rcases Nat.lt_trichotomy r s with c | c | c
  ·have := V_lt c; omega
  ·exact c
  ·have := V_lt c; omega
 ·intro h; rw [h]

theorem read_num {b : Nat} (h : rung b < inf) : ∃ m k : Nat, double.read b = .number (neg b) m (-1074 + (k : Int)) ∧ m * 2 ^ k = V (rung b) := by
 unfold rung inf at h
 unfold Format.read
 simp only [sw, bi, ir, lp]
 by_cases c : b % 9223372036854775808 < 4503599627370496
 ·refine ⟨b % 9223372036854775808, 0, ?_, ?_⟩
  ·rw [if_pos c]; rfl
  ·unfold V rung; rw [if_pos c]; simp
 ·refine ⟨4503599627370496 + b % 9223372036854775808 % 4503599627370496, b % 9223372036854775808 / 4503599627370496 - 1, ?_, ?_⟩
  ·rw [if_neg c, if_pos h]; rfl
  ·unfold V rung; rw [if_neg c]
theorem read_inf {b : Nat} (h : rung b = inf) : double.read b = .infinity (neg b) := by
 unfold rung inf at h
 unfold Format.read
 simp only [sw, bi, ir, lp, h]
 rfl
theorem read_nan {b : Nat} (h : inf < rung b) : double.read b = .nan (neg b) (rung b - inf) := by
 unfold rung inf at h
 unfold Format.read
 simp only [sw, bi, ir, lp]
 rw [if_neg (by omega), if_neg (by omega), if_neg (by omega)]; rfl

theorem cmp_of {x y x' y' : Int} (h1 : x < y ↔ x' < y') (h2 : x = y ↔ x' = y') : compare x y = compare x' y' := by
 simp only [compare, compareOfLessAndEq, h1, h2]
theorem signed_mul (s : Bool) (m a p : Nat) (h : a ≤ p) : signed s m (p - a) * ((2 ^ a : Nat) : Int) = if s = true then -((m * 2 ^ p : Nat) : Int) else ((m * 2 ^ p : Nat) : Int) := by
 have e : (m <<< (p - a)) * 2 ^ a = m * 2 ^ p := by
  rw [Nat.shiftLeft_eq, Nat.mul_assoc, ← Nat.pow_add]
  congr 2; omega
 unfold signed
 cases s
 ·simp only [Bool.false_eq_true, if_false]
  rw [← e, Int.natCast_mul]
 ·simp only [if_true]
  rw [← e, Int.natCast_mul, Int.neg_mul]
theorem sV_lt (s t : Bool) (r q : Nat) : (if s = true then -(V r : Int) else (V r : Int)) < (if t = true then -(V q : Int) else (V q : Int)) ↔ (if s = true then -(r : Int) else (r : Int)) < (if t = true then -(q : Int) else (q : Int)) := by
 have h1 := @V_lt_iff r q
 have h2 := @V_lt_iff q r
 have h3 := @V_inj r 0
 have h4 := @V_inj q 0
 rw [V_zero] at h3 h4
 cases s <;> cases t <;> simp only [Bool.false_eq_true, if_false, if_true] <;> omega
theorem sV_eq (s t : Bool) (r q : Nat) : (if s = true then -(V r : Int) else (V r : Int)) = (if t = true then -(V q : Int) else (V q : Int)) ↔ (if s = true then -(r : Int) else (r : Int)) = (if t = true then -(q : Int) else (q : Int)) := by
 have h1 := @V_inj r q
 have h3 := @V_inj r 0
 have h4 := @V_inj q 0
 rw [V_zero] at h3 h4
 cases s <;> cases t <;> simp only [Bool.false_eq_true, if_false, if_true] <;> omega

theorem rung_key (b : Nat) : (key b).natAbs = rung b := by unfold key; split <;> omega
theorem compare_lt {x y : Int} (h : x < y) : compare x y = .lt := by simp [compare, compareOfLessAndEq, h]
theorem compare_gt {x y : Int} (h : y < x) : compare x y = .gt := by
 have h1 : ¬ x < y := by omega
 have h2 : ¬ x = y := by omega
 simp [compare, compareOfLessAndEq, h1, h2]
theorem compare_eq {x y : Int} (h : x = y) : compare x y = .eq := by subst h; simp [compare, compareOfLessAndEq]

theorem order_key {x y : Nat} (hx : rung x ≤ inf) (hy : rung y ≤ inf) : double.order x y = some (compare (key x) (key y)) := by
 unfold Format.order
 rcases Nat.lt_or_ge (rung x) inf with c | c <;> rcases Nat.lt_or_ge (rung y) inf with d | d
 ·obtain ⟨m, i, h1, h2⟩ := read_num c
  obtain ⟨n, j, h3, h4⟩ := read_num d
  rw [h1, h3]
  simp only [Datum.order]
  congr 1
  have e0 : min (-1074 + (i : Int)) (-1074 + (j : Int)) = -1074 + ((min i j : Nat) : Int) := by omega
  have e1 : (-1074 + (i : Int) - (-1074 + ((min i j : Nat) : Int))).toNat = i - min i j := by omega
  have e2 : (-1074 + (j : Int) - (-1074 + ((min i j : Nat) : Int))).toNat = j - min i j := by omega
  rw [e0, e1, e2]
  have s1 := signed_mul (neg x) m (min i j) i (by omega)
  have s2 := signed_mul (neg y) n (min i j) j (by omega)
  rw [h2] at s1
  rw [h4] at s2
  have hp : 0 < ((2 ^ min i j : Nat) : Int) := by have : 0 < 2 ^ min i j := Nat.two_pow_pos _; omega
  refine cmp_of ?_ ?_
  ·rw [← Int.mul_lt_mul_right hp, s1, s2]; exact sV_lt _ _ _ _
  ·rw [← Int.mul_eq_mul_right_iff (by omega : ((2 ^ min i j : Nat) : Int) ≠ 0), s1, s2]; exact sV_eq _ _ _ _
 ·have d' : rung y = inf := by omega
  obtain ⟨m, i, h1, h2⟩ := read_num c
  rw [h1, read_inf d']
  simp only [Datum.order]
  congr 1
  have hx := rung_key x
  unfold key at hx ⊢
  cases hn : neg y <;> simp only [hn, Bool.false_eq_true, if_false, if_true] at * <;> symm
  ·exact compare_lt (by split <;> omega)
  ·exact compare_gt (by split <;> omega)
 ·have c' : rung x = inf := by omega
  obtain ⟨m, i, h1, h2⟩ := read_num d
  rw [h1, read_inf c']
  simp only [Datum.order]
  congr 1
  unfold key
  cases hn : neg x <;> simp only [hn, Bool.false_eq_true, if_false, if_true] at * <;> symm
  ·exact compare_gt (by split <;> omega)
  ·exact compare_lt (by split <;> omega)
 ·have c' : rung x = inf := by omega
  have d' : rung y = inf := by omega
  rw [read_inf c', read_inf d']
  simp only [Datum.order]
  congr 1
  unfold key inf at *
  cases hn : neg x <;> cases hm : neg y <;> simp [c', d', compare, compareOfLessAndEq]
theorem order_nan_left {x y : Nat} (hx : inf < rung x) : double.order x y = none := by
 unfold Format.order; rw [read_nan hx]; cases double.read y <;> rfl
end Go.Proofs.YtijjlpgcpdapnaaGreatDoor.Fl
