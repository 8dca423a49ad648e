import Derived.Test.YtijjlpgcpdapnaaGreatDoorFloat
import Derived.Laws.FloatArith

/- What conversions between floats and whole numbers say of their bits. No program here. -/
namespace Go.Proofs.YtijjlpgcpdapnaaGreatDoor.Fl
set_option linter.unusedVariables false
set_option linter.unusedSimpArgs false
open Ieee

def Z : Nat := 1074
theorem Z_eq : Z = 1074 := rfl
def T (r : Nat) : Nat := V r / 2 ^ Z
def exact (m : Nat) : Bool := m.log2 ≤ 52 || m % 2 ^ (m.log2 - 52) == 0
def kept (m : Nat) : Nat :=
 if m.log2 ≤ 52 then m * 2 ^ (52 - m.log2) else
  m / 2 ^ (m.log2 - 52) + (if 2 ^ (m.log2 - 52) < 2 * (m % 2 ^ (m.log2 - 52)) ∨ (2 ^ (m.log2 - 52) = 2 * (m % 2 ^ (m.log2 - 52)) ∧ m / 2 ^ (m.log2 - 52) % 2 = 1) then 1 else 0)
def near (m : Nat) : Nat := if m = 0 then 0 else (m.log2 + 1022) * 4503599627370496 + kept m

theorem log2_lo {m : Nat} (h : m ≠ 0) : 2 ^ m.log2 ≤ m := Nat.log2_self_le h
theorem log2_hi (m : Nat) : m < 2 ^ (m.log2 + 1) := Nat.lt_log2_self
theorem log2_64 {m : Nat} (h : m < 18446744073709551616) (h0 : m ≠ 0) : m.log2 ≤ 63 := by
 rcases Nat.lt_or_ge m.log2 64 with c | c
 ·omega
 ·have : 2 ^ 64 ≤ 2 ^ m.log2 := Nat.pow_le_pow_right (by omega) c
  have := log2_lo h0
  omega
theorem kept_range {m : Nat} (h0 : m ≠ 0) : 4503599627370496 ≤ kept m ∧ kept m ≤ 9007199254740992 := by
 have lo := log2_lo h0
 have hi := log2_hi m
 unfold kept
 by_cases c : m.log2 ≤ 52
 ·rw [if_pos c]
  have e : 2 ^ m.log2 * 2 ^ (52 - m.log2) = 4503599627370496 := by rw [← Nat.pow_add]; rw [show m.log2 + (52 - m.log2) = 52 by omega]
  have e2 : 2 ^ (m.log2 + 1) * 2 ^ (52 - m.log2) = 9007199254740992 := by rw [← Nat.pow_add]; rw [show m.log2 + 1 + (52 - m.log2) = 53 by omega]
  have := Nat.mul_le_mul_right (2 ^ (52 - m.log2)) lo
  have := Nat.mul_le_mul_right (2 ^ (52 - m.log2)) (Nat.le_of_lt hi)
  omega
 ·rw [if_neg c]
  have e : 2 ^ m.log2 = 4503599627370496 * 2 ^ (m.log2 - 52) := by
   rw [show (4503599627370496 : Nat) = 2 ^ 52 from rfl, ← Nat.pow_add]; congr 1; have := Z_eq; omega
  have e2 : 2 ^ (m.log2 + 1) = 9007199254740992 * 2 ^ (m.log2 - 52) := by
   rw [show (9007199254740992 : Nat) = 2 ^ 53 from rfl, ← Nat.pow_add]; congr 1; have := Z_eq; omega
  have hp : 0 < 2 ^ (m.log2 - 52) := Nat.two_pow_pos _
  have l1 : 4503599627370496 ≤ m / 2 ^ (m.log2 - 52) := (Nat.le_div_iff_mul_le hp).2 (by omega)
  have l2 : m / 2 ^ (m.log2 - 52) < 9007199254740992 := (Nat.div_lt_iff_lt_mul hp).2 (by omega)
  split <;> omega
theorem cut_even {m : Nat} (s : Bool) (h0 : m ≠ 0) : Toward.even.cut s (m <<< (52 - m.log2)) (m.log2 - 52) = kept m := by
 unfold Toward.cut kept
 by_cases c : m.log2 ≤ 52
 ·rw [if_pos c]
  have e : m.log2 - 52 = 0 := by omega
  have e3 : ∀ n : Nat, n % 1 = 0 := fun n => Nat.mod_one n
  simp only [e, Nat.zero_min, Nat.shiftLeft_zero, Nat.div_one, Nat.shiftLeft_eq]
  simp [e3]
 ·rw [if_neg c]
  have e : 52 - m.log2 = 0 := by omega
  have e2 : min (m.log2 - 52) (m.log2 + 2) = m.log2 - 52 := by omega
  simp only [e, Nat.shiftLeft_zero, e2, Nat.one_shiftLeft]
  congr 1
  generalize 2 ^ (m.log2 - 52) = p
  by_cases h1 : p < 2 * (m % p)
  ·simp [h1]
  ·by_cases h2 : p = 2 * (m % p)
   ·by_cases h3 : m / p % 2 = 1
    ·rw [if_pos (.inr ⟨h2, h3⟩)]; simp [h1, ← h2, h3]
    ·rw [if_neg (fun h => h.elim h1 (fun h => h3 h.2))]; simp [h1, ← h2, h3]
   ·rw [if_neg (fun h => h.elim h1 (fun h => h2 h.1))]; simp [h1, h2]
theorem near_lt {m : Nat} (h : m < 18446744073709551616) : near m < inf := by
 unfold near inf
 split
 ·omega
 ·rename_i h0
  have := kept_range h0
  have := log2_64 h h0
  omega
theorem nearest_eq {m : Nat} (s : Bool) (h : m < 18446744073709551616) : double.nearest s m 0 = double.word s (near m) := by
 have hn := near_lt h
 unfold near inf at hn
 unfold Format.nearest near
 by_cases h0 : m = 0
 ·rw [if_pos h0, if_pos h0]
 ·rw [if_neg h0] at hn
  rw [if_neg h0, if_neg h0]
  have hl := log2_64 h h0
  have e1 : max ((0 : Int) + (m.log2 : Int) - ((double.fractionBits : Nat) : Int)) double.leastPlace = (m.log2 : Int) - 52 := by
   rw [lp, show double.fractionBits = 52 from rfl]; omega
  have e2 : ((0 : Int) - ((m.log2 : Int) - 52)).toNat = 52 - m.log2 := by omega
  have e3 : (((m.log2 : Int) - 52) - 0).toNat = m.log2 - 52 := by omega
  have e4 : (((m.log2 : Int) - 52) - double.leastPlace).toNat = m.log2 + 1022 := by rw [lp]; omega
  simp only [e1, e2, e3, e4, bi, ir, cut_even s h0]
  rw [Nat.min_eq_left (by omega)]
theorem word_rung {s : Bool} {r : Nat} (h : r ≤ inf) : rung (double.word s r) = r ∧ neg (double.word s r) = s := by
 unfold inf at h
 unfold Format.word rung neg
 rw [sw]
 cases s
 ·simp only [Bool.false_eq_true, if_false]; constructor
  ·omega
  ·have : r / 9223372036854775808 = 0 := by omega
   rw [this]; rfl
 ·simp only [if_true]; constructor
  ·omega
  ·have : (9223372036854775808 + r) / 9223372036854775808 = 1 := by omega
   rw [this]; rfl
theorem V_near {m : Nat} (h0 : m ≠ 0) : V (near m) = kept m * 2 ^ (m.log2 + 1022) := by
 have hk := kept_range h0
 unfold near
 rw [if_neg h0]
 unfold V
 rw [if_neg (by omega)]
 by_cases c : kept m = 9007199254740992
 ·have e1 : ((m.log2 + 1022) * 4503599627370496 + kept m) % 4503599627370496 = 0 := by omega
  have e2 : ((m.log2 + 1022) * 4503599627370496 + kept m) / 4503599627370496 - 1 = m.log2 + 1022 + 1 := by omega
  rw [e1, e2, c, Nat.pow_succ]; omega
 ·have e1 : 4503599627370496 + ((m.log2 + 1022) * 4503599627370496 + kept m) % 4503599627370496 = kept m := by omega
  have e2 : ((m.log2 + 1022) * 4503599627370496 + kept m) / 4503599627370496 - 1 = m.log2 + 1022 := by omega
  rw [e1, e2]
theorem kept_exact {m : Nat} (h0 : m ≠ 0) (h : exact m = true) : kept m * 2 ^ (m.log2 + 1022) = m * 2 ^ Z := by
 unfold exact at h
 unfold kept
 by_cases c : m.log2 ≤ 52
 ·rw [if_pos c, Nat.mul_assoc, ← Nat.pow_add, show 52 - m.log2 + (m.log2 + 1022) = Z by have := Z_eq; omega]
 ·have hr : m % 2 ^ (m.log2 - 52) = 0 := by simpa [c] using h
  have hp : 0 < 2 ^ (m.log2 - 52) := Nat.two_pow_pos _
  rw [if_neg c, hr, if_neg (by omega), Nat.add_zero]
  have e : m = m / 2 ^ (m.log2 - 52) * 2 ^ (m.log2 - 52) := by have := Nat.div_add_mod m (2 ^ (m.log2 - 52)); rw [hr] at this; rw [Nat.mul_comm]; omega
  have e2 : 2 ^ (m.log2 + 1022) = 2 ^ (m.log2 - 52) * 2 ^ Z := by rw [← Nat.pow_add]; congr 1; have := Z_eq; omega
  rw [e2, ← Nat.mul_assoc, ← e]
theorem V_exact {m : Nat} (h : exact m = true) : V (near m) = m * 2 ^ Z := by
 by_cases h0 : m = 0
 ·subst h0; rw [Nat.zero_mul, show near 0 = 0 by simp [near], V_zero]
 ·rw [V_near h0, kept_exact h0 h]
theorem T_exact {m : Nat} (h : exact m = true) : T (near m) = m := by
 unfold T; rw [V_exact h]; exact Nat.mul_div_cancel _ (Nat.two_pow_pos _)
theorem T_inexact {m : Nat} (h : exact m = false) : T (near m) ≠ m ∧ T (near m) = kept m * 2 ^ (m.log2 - 52) := by
 unfold exact at h
 have c : ¬ m.log2 ≤ 52 := by intro c; simp [c] at h
 have hr : m % 2 ^ (m.log2 - 52) ≠ 0 := by simpa [c] using h
 have h0 : m ≠ 0 := by rintro rfl; simp at c
 have e2 : 2 ^ (m.log2 + 1022) = 2 ^ (m.log2 - 52) * 2 ^ Z := by rw [← Nat.pow_add]; congr 1; have := Z_eq; omega
 have e : T (near m) = kept m * 2 ^ (m.log2 - 52) := by
  unfold T; rw [V_near h0, e2, ← Nat.mul_assoc]; exact Nat.mul_div_cancel _ (Nat.two_pow_pos _)
 refine ⟨?_, e⟩
 intro h
 rw [e] at h
 apply hr
 have := Nat.mul_mod_left (kept m) (2 ^ (m.log2 - 52))
 rw [h] at this
 exact this

theorem cut_zero (s : Bool) (n d : Nat) : Toward.zero.cut s n d = n / 2 ^ d := by
 unfold Toward.cut
 simp only [Bool.toNat_false, Nat.add_zero, Nat.one_shiftLeft]
 rcases Nat.le_total d (n.log2 + 2) with c | c
 ·rw [Nat.min_eq_left c]
 ·rw [Nat.min_eq_right c]
  have hi := log2_hi n
  have h2 : 2 ^ (n.log2 + 1) ≤ 2 ^ (n.log2 + 2) := Nat.pow_le_pow_right (by omega) (by omega)
  have h3 : 2 ^ (n.log2 + 2) ≤ 2 ^ d := Nat.pow_le_pow_right (by omega) c
  rw [Nat.div_eq_of_lt (by omega), Nat.div_eq_of_lt (by omega)]
theorem integral_eq {b : Nat} (h : rung b < inf) : (double.read b).integral .zero = .number (neg b) (T (rung b)) 0 := by
 obtain ⟨m, k, h1, h2⟩ := read_num h
 rw [h1]
 simp only [Datum.integral, cut_zero]
 congr 1
 unfold T
 rw [← h2, Nat.shiftLeft_eq]
 rcases Nat.le_total Z k with c | c
 ·have e1 : (-1074 + (k : Int)).toNat = k - Z := by rw [Z_eq]; omega
  have e2 : (-(-1074 + (k : Int))).toNat = 0 := by rw [Z_eq] at c; omega
  have e3 : 2 ^ k = 2 ^ (k - Z) * 2 ^ Z := by rw [← Nat.pow_add]; congr 1; have := Z_eq; omega
  rw [e1, e2, e3, ← Nat.mul_assoc, Nat.mul_div_cancel _ (Nat.two_pow_pos _), Nat.pow_zero, Nat.div_one]
 ·have e1 : (-1074 + (k : Int)).toNat = 0 := by rw [Z_eq] at c; omega
  have e2 : (-(-1074 + (k : Int))).toNat = Z - k := by rw [Z_eq]; omega
  have e3 : 2 ^ Z = 2 ^ (Z - k) * 2 ^ k := by rw [← Nat.pow_add, Nat.sub_add_cancel c]
  rw [e1, e2, e3, Nat.pow_zero, Nat.mul_one, Nat.mul_div_mul_right _ _ (Nat.two_pow_pos _)]
def sg (s : Bool) (m : Nat) : Int := if s = true then -(m : Int) else (m : Int)
theorem toInt_eq {b : Nat} (h : rung b < inf) : (double.read b).toInt .zero = some (sg (neg b) (T (rung b))) := by
 unfold Datum.toInt
 rw [integral_eq h]
 simp only [signed, sg, Nat.shiftLeft_zero]
theorem ofInt_eq {n : Int} (h : n.natAbs < 18446744073709551616) : floatOfInt .f64 n = double.word (decide (n < 0)) (near n.natAbs) := by
 have e : floatOfInt .f64 n = double.nearest (decide (n < 0)) n.natAbs 0 := rfl
 rw [e, nearest_eq _ h]
theorem T_whole {r : Nat} (h : r < inf) : exact (T r) = true := by
 unfold T V
 by_cases c : r < 4503599627370496
 ·rw [if_pos c]
  have e : r / 2 ^ Z = 0 := Nat.div_eq_of_lt (Nat.lt_of_lt_of_le c (by
   have : 2 ^ 52 ≤ 2 ^ Z := Nat.pow_le_pow_right (by omega) (by rw [Z_eq]; omega)
   exact this))
  rw [e]; decide
 ·rw [if_neg c]
  generalize hm : 4503599627370496 + r % 4503599627370496 = m
  generalize r / 4503599627370496 - 1 = k
  have hm1 : 2 ^ 52 ≤ m := by omega
  have hm2 : m < 2 ^ 53 := by omega
  rcases Nat.le_total Z k with d | d
  ·have e3 : 2 ^ k = 2 ^ (k - Z) * 2 ^ Z := by rw [← Nat.pow_add]; congr 1; have := Z_eq; omega
   rw [e3, ← Nat.mul_assoc, Nat.mul_div_cancel _ (Nat.two_pow_pos _)]
   have hp : 0 < 2 ^ (k - Z) := Nat.two_pow_pos _
   have hl : (m * 2 ^ (k - Z)).log2 = 52 + (k - Z) := by
    refine (Nat.log2_eq_iff (by have := Nat.mul_pos (show 0 < m by omega) hp; omega)).2 ⟨?_, ?_⟩
    ·rw [Nat.pow_add]; exact Nat.mul_le_mul_right _ hm1
    ·rw [show 52 + (k - Z) + 1 = 53 + (k - Z) by omega, Nat.pow_add]; exact Nat.mul_lt_mul_of_pos_right hm2 hp
   unfold exact
   rw [hl, show 52 + (k - Z) - 52 = k - Z by omega, Nat.mul_mod_left]; simp
  ·have e3 : 2 ^ Z = 2 ^ (Z - k) * 2 ^ k := by rw [← Nat.pow_add, Nat.sub_add_cancel d]
   rw [e3, Nat.mul_div_mul_right _ _ (Nat.two_pow_pos _)]
   have hlt : m / 2 ^ (Z - k) < 2 ^ 53 := Nat.lt_of_le_of_lt (Nat.div_le_self _ _) hm2
   unfold exact
   rcases Nat.eq_zero_or_pos (m / 2 ^ (Z - k)) with z | z
   ·rw [z]; decide
   ·have : (m / 2 ^ (Z - k)).log2 < 53 := (Nat.log2_lt (by omega)).2 hlt
    have : (m / 2 ^ (Z - k)).log2 ≤ 52 := by omega
    simp [this]
theorem T_mono {r s : Nat} (h : r ≤ s) : T r ≤ T s := by
 unfold T
 rcases Nat.lt_or_ge r s with c | c
 ·exact Nat.div_le_div_right (Nat.le_of_lt (V_lt c))
 ·have : r = s := by omega
  rw [this]; exact Nat.le_refl _
theorem T_edge : T 4890909195324358656 = 9223372036854775808 := by decide +kernel
theorem T_below : T 4890909195324358655 = 9223372036854774784 := by decide +kernel
end Go.Proofs.YtijjlpgcpdapnaaGreatDoor.Fl
