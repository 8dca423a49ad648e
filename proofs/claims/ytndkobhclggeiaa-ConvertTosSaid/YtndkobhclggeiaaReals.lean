/- The real that a number is, and the number that a real is: the program's and the document's ways. -/
import Derived.Test.YtndkobhclggeiaaF2
import Derived.Test.YtndkobhclggeiaaF3
import Derived.Test.YtndkobhclggeiaaF6
import Derived.Test.YtndkobhclggeiaaF9
import Derived.Test.YtndkobhclggeiaaF10
import Derived.Test.YtndkobhclggeiaaFloatInt
import Derived.Test.YtndkobhclggeiaaVals
namespace Go.Proofs.Ytndkobhclggeiaa.Aev
open Go
set_option linter.unusedVariables false
set_option linter.unusedSimpArgs false
set_option maxRecDepth 100000
/-- The word of a number. -/
def wd (n : Int) : Nat := Ieee.double.word (decide (n < 0)) (Fl.near n.natAbs)
theorem wd_eq {n : Int} (h : n.natAbs < 18446744073709551616) : wd n = if n < 0 then 9223372036854775808 + Fl.near n.natAbs else Fl.near n.natAbs := by
  unfold wd Ieee.Format.word
  rw [Fl.sw]
  by_cases c : n < 0
  · rw [decide_eq_true c, if_pos rfl, if_pos c]
  · rw [decide_eq_false c, if_neg (by simp), if_neg c]
theorem near_inf {m : Nat} (h : m < 18446744073709551616) : Fl.near m < 9218868437227405312 := Fl.near_lt h
theorem wd_lt {n : Int} (h : n.natAbs < 18446744073709551616) : wd n < 18446744073709551616 := by
  have := near_inf h
  rw [wd_eq h]; split <;> omega
theorem wd_rung {n : Int} (h : n.natAbs < 18446744073709551616) : Fl.rung (wd n) = Fl.near n.natAbs ∧ Fl.neg (wd n) = decide (n < 0) :=
  Fl.word_rung (Nat.le_of_lt (Fl.near_lt h))
/-- is a real a number? -/
def isI (n : Nat) : Bool := decide (Fl.rung n ≤ Fl.inf) && decide (-4890909195324358656 ≤ Fl.key n) && decide (Fl.key n < 4890909195324358656) && decide (Fl.near (Fl.T (Fl.rung n)) = Fl.rung n)
def toI (n : Nat) : Int × Bool := if isI n = true then (Fl.sg (Fl.neg n) (Fl.T (Fl.rung n)), true) else (0, false)
def fromI (n : Int) : Int × Bool := if Fl.exact n.natAbs = true then ((wd n : Int), true) else (0, false)
theorem edges : Fl.key 4890909195324358656 = 4890909195324358656 ∧ Fl.rung 4890909195324358656 = 4890909195324358656 ∧ Fl.key 14114281232179134464 = -4890909195324358656 ∧ Fl.rung 14114281232179134464 = 4890909195324358656 := by decide
theorem toint_f (n : Nat) (k : Nat) : reals_ToInt.f k (n : Int) = some (toI n) := by
  obtain ⟨he1, he2, he3, he4⟩ := edges
  have fm : FloatKind.f64.format = Ieee.double := rfl
  have hi : (4890909195324358656 : Nat) ≤ Fl.inf := by decide
  unfold toI
  by_cases c1 : Fl.rung n ≤ Fl.inf
  case neg =>
    have hf : isI n = false := by unfold isI; rw [decide_eq_false c1]; rfl
    have h1 : (FloatKind.f64.format.order n n != some .eq) = true := by rw [fm, Fl.order_nan_left (by omega)]; rfl
    simp only [reals_ToInt.f, reals_ToInt.c, math_Float64frombits.f, Option.bind_some, Int.toNat_natCast, h1, cond_true, hf, Bool.false_eq_true, if_false]
  have h1 : (FloatKind.f64.format.order n n != some .eq) = false := by rw [fm, Fl.order_key c1 c1, Fl.compare_eq rfl]; rfl
  have o2 := Fl.order_key (x := n) (y := 14114281232179134464) c1 (by rw [he4]; exact hi)
  have o3 := Fl.order_key (x := n) (y := 4890909195324358656) c1 (by rw [he2]; exact hi)
  rw [he3] at o2
  rw [he1] at o3
  by_cases c2 : -4890909195324358656 ≤ Fl.key n
  case neg =>
    have hf : isI n = false := by unfold isI; rw [decide_eq_false c2]; simp
    have h2 : (FloatKind.f64.format.order n 14114281232179134464 == some .lt) = true := by rw [fm, o2, Fl.compare_lt (by omega)]; rfl
    simp only [reals_ToInt.f, reals_ToInt.c, math_Float64frombits.f, Option.bind_some, Int.toNat_natCast, h1, h2, cond_true, cond_false, hf, Bool.false_eq_true, if_false]
  have h2 : (FloatKind.f64.format.order n 14114281232179134464 == some .lt) = false := by
    rw [fm, o2]
    rcases Int.lt_or_eq_of_le c2 with e | e
    · rw [Fl.compare_gt e]; rfl
    · rw [Fl.compare_eq e.symm]; rfl
  by_cases c3 : Fl.key n < 4890909195324358656
  case neg =>
    have hf : isI n = false := by unfold isI; rw [decide_eq_false c3]; simp
    have h3 : (FloatKind.f64.format.order n 4890909195324358656 == some .gt || FloatKind.f64.format.order n 4890909195324358656 == some .eq) = true := by
      rw [fm, o3]
      rcases Int.lt_or_eq_of_le (Int.not_lt.1 c3) with e | e
      · rw [Fl.compare_gt e]; rfl
      · rw [Fl.compare_eq e.symm]; rfl
    simp only [reals_ToInt.f, reals_ToInt.c, math_Float64frombits.f, Option.bind_some, Int.toNat_natCast, h1, h2, h3, cond_true, cond_false, hf, Bool.false_eq_true, if_false]
  have h3 : (FloatKind.f64.format.order n 4890909195324358656 == some .gt || FloatKind.f64.format.order n 4890909195324358656 == some .eq) = false := by
    rw [fm, o3, Fl.compare_lt c3]; rfl
  have hk := Fl.rung_key n
  have hlt : Fl.rung n ≤ 4890909195324358656 := by omega
  have hri : Fl.rung n < Fl.inf := by unfold Fl.inf; omega
  have hT : Fl.T (Fl.rung n) ≤ 9223372036854775808 := by have := Fl.T_mono hlt; rw [Fl.T_edge] at this; exact this
  have hpos : Fl.neg n = false → Fl.T (Fl.rung n) ≤ 9223372036854774784 := by
    intro hn
    have e : Fl.key n = (Fl.rung n : Int) := by unfold Fl.key; rw [hn]; simp
    have := Fl.T_mono (show Fl.rung n ≤ 4890909195324358655 by omega)
    rw [Fl.T_below] at this
    exact this
  have hto : Ieee.Datum.toInt Ieee.Toward.zero (FloatKind.decode FloatKind.f64 n) = some (Fl.sg (Fl.neg n) (Fl.T (Fl.rung n))) := Fl.toInt_eq hri
  have b1 : (-9223372036854775808 : Int) ≤ Fl.sg (Fl.neg n) (Fl.T (Fl.rung n)) := by unfold Fl.sg; split <;> omega
  have b2 : Fl.sg (Fl.neg n) (Fl.T (Fl.rung n)) ≤ (9223372036854775807 : Int) := by
    unfold Fl.sg
    cases hn : Fl.neg n
    · have := hpos hn; rw [if_neg (by simp)]; omega
    · rw [if_pos rfl]; omega
  have hnl := Fl.near_lt (m := Fl.T (Fl.rung n)) (by omega)
  obtain ⟨wr, wn⟩ := Fl.word_rung (s := Fl.neg n) (r := Fl.near (Fl.T (Fl.rung n))) (Nat.le_of_lt hnl)
  have ot := Fl.order_key (x := n) (y := Ieee.double.word (Fl.neg n) (Fl.near (Fl.T (Fl.rung n)))) c1 (by rw [wr]; omega)
  have kt : Fl.key (Ieee.double.word (Fl.neg n) (Fl.near (Fl.T (Fl.rung n)))) = if Fl.neg n = true then -(Fl.near (Fl.T (Fl.rung n)) : Int) else (Fl.near (Fl.T (Fl.rung n)) : Int) := by
    unfold Fl.key; rw [wr, wn]
  have kn : Fl.key n = if Fl.neg n = true then -(Fl.rung n : Int) else (Fl.rung n : Int) := rfl
  have hq : (FloatKind.f64.format.order n (Ieee.double.word (Fl.neg n) (Fl.near (Fl.T (Fl.rung n)))) != some .eq) = !(isI n) := by
    have hf : isI n = decide (Fl.near (Fl.T (Fl.rung n)) = Fl.rung n) := by unfold isI; rw [decide_eq_true c1, decide_eq_true c2, decide_eq_true c3]; simp
    rw [hf, fm, ot, kt, kn]
    by_cases c : Fl.near (Fl.T (Fl.rung n)) = Fl.rung n
    · rw [decide_eq_true c, c, Fl.compare_eq rfl]; rfl
    · rw [decide_eq_false c]
      rcases Int.lt_or_gt_of_ne (show (if Fl.neg n = true then -(Fl.rung n : Int) else (Fl.rung n : Int)) ≠ (if Fl.neg n = true then -(Fl.near (Fl.T (Fl.rung n)) : Int) else (Fl.near (Fl.T (Fl.rung n)) : Int)) by split <;> omega) with e | e
      · rw [Fl.compare_lt e]; rfl
      · rw [Fl.compare_gt e]; rfl
  have htr : math_Trunc.f k n = some (Ieee.double.word (Fl.neg n) (Fl.near (Fl.T (Fl.rung n)))) := by
    simp only [math_Trunc.f, math_Trunc.c, math_archTrunc.f]
    rw [if_pos ⟨hri, by omega⟩]; rfl
  simp only [reals_ToInt.f, reals_ToInt.c, math_Float64frombits.f, Option.bind_some, Int.toNat_natCast, h1, h2, h3, htr, hq, hto, Option.isSome_some, Option.getD_some, b1, b2, decide_true, Bool.and_self, cond_true, cond_false]
  cases isI n <;> rfl
theorem fromint_f {n : Int} (h0 : -9223372036854775808 ≤ n) (h1 : n ≤ 9223372036854775807) (k : Nat) : reals_FromInt.f k n = some (fromI n) := by
  obtain ⟨he1, he2, _, _⟩ := edges
  have hm : n.natAbs < 18446744073709551616 := by omega
  have hF : FloatKind.nearest FloatKind.f64 n = wd n := Fl.ofInt_eq (n := n) hm
  have hlt := Fl.near_lt hm
  obtain ⟨hr, hs⟩ := wd_rung hm
  have hk : Fl.key (wd n) = if n < 0 then -(Fl.near n.natAbs : Int) else (Fl.near n.natAbs : Int) := by
    unfold Fl.key; rw [hr, hs]
    by_cases c : n < 0
    · rw [decide_eq_true c, if_pos rfl, if_pos c]
    · rw [decide_eq_false c, if_neg (by simp), if_neg c]
  have hord := Fl.order_key (x := wd n) (y := 4890909195324358656) (by rw [hr]; omega) (by rw [he2]; decide)
  rw [he1] at hord
  have fm : FloatKind.f64.format = Ieee.double := rfl
  have hsg : Fl.sg (Fl.neg (wd n)) (Fl.T (Fl.rung (wd n))) = if n < 0 then -(Fl.T (Fl.near n.natAbs) : Int) else (Fl.T (Fl.near n.natAbs) : Int) := by
    unfold Fl.sg; rw [hr, hs]
    by_cases c : n < 0
    · rw [decide_eq_true c, if_pos rfl, if_pos c]
    · rw [decide_eq_false c, if_neg (by simp), if_neg c]
  have hval : Ieee.Datum.toInt Ieee.Toward.zero (FloatKind.decode FloatKind.f64 (wd n)) = some (Fl.sg (Fl.neg (wd n)) (Fl.T (Fl.rung (wd n)))) := Fl.toInt_eq (by rw [hr]; exact hlt)
  rw [hsg] at hval
  have low : Fl.key (wd n) < 4890909195324358656 → (FloatKind.f64.format.order (wd n) 4890909195324358656 == some .gt || FloatKind.f64.format.order (wd n) 4890909195324358656 == some .eq) = false := fun q => by
    rw [fm, hord, Fl.compare_lt q]; rfl
  unfold fromI
  by_cases hx : Fl.exact n.natAbs = true
  · rw [if_pos hx]
    have hT := Fl.T_exact hx
    rw [hT] at hval
    have hn : (if n < 0 then -(n.natAbs : Int) else (n.natAbs : Int)) = n := by split <;> omega
    rw [hn] at hval
    have hkl : Fl.key (wd n) < 4890909195324358656 := by
      rw [hk]
      by_cases c : n < 0
      · rw [if_pos c]; omega
      · rw [if_neg c]
        rcases Nat.lt_or_ge (Fl.near n.natAbs) 4890909195324358656 with d | d
        · omega
        · have := Fl.T_mono d
          rw [Fl.T_edge, hT] at this
          omega
    simp only [reals_FromInt.f, reals_FromInt.c, hF, low hkl, hval, Option.isSome_some, Option.getD_some, h0, h1, decide_true, Bool.and_self, cond_true, cond_false, bne_self_eq_false, math_Float64bits.f, Option.bind_some]
  · rw [if_neg hx]
    have hx' : Fl.exact n.natAbs = false := by simpa using hx
    obtain ⟨hne, hT⟩ := Fl.T_inexact hx'
    by_cases hkl : Fl.key (wd n) < 4890909195324358656
    · have hz : n.natAbs ≠ 0 := by intro e; rw [e] at hx'; exact absurd hx' (by decide)
      have hK : Fl.T (Fl.near n.natAbs) ≤ (if n < 0 then 9223372036854775808 else 9223372036854775807) := by
        by_cases c : n < 0
        · rw [if_pos c, hT]
          have hne2 : n.natAbs ≠ 9223372036854775808 := by intro e; rw [e] at hx'; exact absurd hx' (by decide +kernel)
          have hl : n.natAbs.log2 ≤ 62 := by
            have := (Nat.log2_lt hz).2 (show n.natAbs < 2 ^ 63 by omega)
            omega
          have hk2 := (Fl.kept_range hz).2
          calc Fl.kept n.natAbs * 2 ^ (n.natAbs.log2 - 52) ≤ 9007199254740992 * 2 ^ (n.natAbs.log2 - 52) := Nat.mul_le_mul_right _ hk2
            _ ≤ 9007199254740992 * 2 ^ 10 := Nat.mul_le_mul_left _ (Nat.pow_le_pow_right (by omega) (by omega))
            _ = 9223372036854775808 := by decide
        · rw [if_neg c]
          rw [hk, if_neg c] at hkl
          have := Fl.T_mono (show Fl.near n.natAbs ≤ 4890909195324358655 by omega)
          rw [Fl.T_below] at this
          omega
      have b1 : (-9223372036854775808 : Int) ≤ (if n < 0 then -(Fl.T (Fl.near n.natAbs) : Int) else (Fl.T (Fl.near n.natAbs) : Int)) := by split at hK <;> split <;> omega
      have b2 : (if n < 0 then -(Fl.T (Fl.near n.natAbs) : Int) else (Fl.T (Fl.near n.natAbs) : Int)) ≤ (9223372036854775807 : Int) := by split at hK <;> split <;> omega
      have hne3 : ((if n < 0 then -(Fl.T (Fl.near n.natAbs) : Int) else (Fl.T (Fl.near n.natAbs) : Int)) != n) = true := by rw [bne_iff_ne]; split <;> omega
      simp only [reals_FromInt.f, reals_FromInt.c, hF, low hkl, hval, Option.isSome_some, Option.getD_some, b1, b2, hne3, decide_true, Bool.and_self, cond_true, cond_false]
    · have hh : (FloatKind.f64.format.order (wd n) 4890909195324358656 == some .gt || FloatKind.f64.format.order (wd n) 4890909195324358656 == some .eq) = true := by
        rw [fm, hord]
        rcases Int.lt_or_eq_of_le (Int.not_lt.1 hkl) with e | e
        · rw [Fl.compare_gt e]; rfl
        · rw [Fl.compare_eq e.symm]; rfl
      simp only [reals_FromInt.f, reals_FromInt.c, hF, hh, cond_true]
/-! ### the document's -/
theorem shr_nat {m i : Nat} (h : i ≤ 64) : (Int.fdiv (m : Int) ((2 : Int) ^ (Min.min (Int.toNat (i : Int)) (64 : Nat)))) = ((m / 2 ^ i : Nat) : Int) := by
  have e0 : Min.min (Int.toNat (i : Int)) 64 = i := by rw [Int.toNat_natCast]; omega
  have hp : (0 : Int) ≤ (2 : Int) ^ i := Int.pow_nonneg (by omega)
  rw [e0, Int.fdiv_eq_ediv_of_nonneg _ hp, Int.natCast_ediv, Int.natCast_pow]
  first | done | rfl
theorem shl_nat {m i : Nat} (h : i ≤ 64) (hm : m * 2 ^ i < 18446744073709551616) : (IntKind.wrap IntKind.u64 ((m : Int) * ((2 : Int) ^ (Min.min (Int.toNat (i : Int)) (64 : Nat))))) = ((m * 2 ^ i : Nat) : Int) := by
  have e0 : Min.min (Int.toNat (i : Int)) 64 = i := by rw [Int.toNat_natCast]; omega
  have e : (m : Int) * 2 ^ i = ((m * 2 ^ i : Nat) : Int) := by rw [Int.natCast_mul, Int.natCast_pow]; rfl
  rw [e0, e, u64w (by omega) (by omega)]
/-- The bits of a sign, an exponent and a significand. -/
theorem parts (s : Bool) {e f : Nat} (he : e < 2048) (hf : f < 4503599627370496) :
    (IntKind.wrap IntKind.u64 ((BitVec.toNat ((BitVec.ofInt (64 : Nat) (IntKind.wrap IntKind.u64 ((BitVec.toNat ((BitVec.ofInt (64 : Nat) ((if s = true then 9223372036854775808 else 0 : Nat) : Int)) ||| (BitVec.ofInt (64 : Nat) ((e * 4503599627370496 : Nat) : Int))) : Nat) : Int))) ||| (BitVec.ofInt (64 : Nat) (f : Int))) : Nat) : Int)) = (((if s = true then 9223372036854775808 else 0) + e * 4503599627370496 + f : Nat) : Int) := by
  have h1 : Go.bits .or .u64 ((if s = true then 9223372036854775808 else 0 : Nat) : Int) ((e * 4503599627370496 : Nat) : Int) = (((if s = true then 2048 else 0) + e) * 2 ^ 52 : Nat) := by
    cases s
    · simp only [Bool.false_eq_true, if_false]
      rw [Go.u64_or_nat 0 (e * 4503599627370496) (by omega) (by omega), Nat.zero_or, Nat.zero_add]
    · simp only [if_true]
      have := or_sum (a := 1) (b := e * 4503599627370496) (j := 63) (by omega) (by omega)
      have e1 : (1 * 2 ^ 63 : Nat) = 9223372036854775808 := by omega
      rw [e1] at this
      rw [this]
      omega
  have h2 := or_sum (a := (if s = true then 2048 else 0) + e) (b := f) (j := 52) hf (by split <;> omega)
  rw [← h1] at h2
  refine Eq.trans (show _ = _ from h2) ?_
  congr 1
  split <;> omega
def fin (s : Bool) (m : Nat) : Option (Int × Bool) := some (if Fl.exact m = true then ((((if s = true then 9223372036854775808 else 0) + Fl.near m : Nat) : Int), true) else (0, false))
theorem amask {n m j : Nat} (hm : m = 2 ^ j - 1) (h : n < 18446744073709551616) (hj : m < 18446744073709551616) : (IntKind.wrap IntKind.u64 ((BitVec.toNat ((BitVec.ofInt (64 : Nat) (n : Int)) &&& (BitVec.ofInt (64 : Nat) (m : Int))) : Nat) : Int)) = ((n % 2 ^ j : Nat) : Int) := and_mask hm h hj
theorem fin_eq (s : Bool) {m : Nat} (h0 : m ≠ 0) (h : m < 18446744073709551616) (k i : Nat) (hi : 64 ≤ i) :
    transomref02_FromInt.s1 (k + 1) ((if s = true then 9223372036854775808 else 0 : Nat) : Int) (m : Int) (m.log2 : Int) (i : Int) = fin s m := by
  have hl := Fl.log2_64 h h0
  have hk := Fl.kept_range h0
  have hn : Fl.near m = (m.log2 + 1022) * 4503599627370496 + Fl.kept m := by unfold Fl.near; rw [if_neg h0]
  have hexp : IntKind.wrap IntKind.u64 ((IntKind.wrap IntKind.u64 (IntKind.wrap IntKind.i64 ((m.log2 : Int) + 1023))) * 4503599627370496) = (((m.log2 + 1023) * 4503599627370496 : Nat) : Int) := by
    rw [i64w (n := (m.log2 : Int) + 1023) (by omega) (by omega), u64w (n := (m.log2 : Int) + 1023) (by omega) (by omega), u64w (by omega) (by omega)]; omega
  have e64 : ¬ (i : Int) < 64 := by omega
  by_cases c : m.log2 ≤ 52
  · have e1 : IntKind.wrap IntKind.u64 (IntKind.wrap IntKind.i64 (52 - (m.log2 : Int))) = ((52 - m.log2 : Nat) : Int) := by rw [i64w (by omega) (by omega), u64w (by omega) (by omega)]; omega
    have e2 : ¬ (m.log2 : Int) > 52 := by omega
    have e3 : (0 : Int) ≤ ((52 - m.log2 : Nat) : Int) := by omega
    have hx : Fl.exact m = true := by unfold Fl.exact; simp [c]
    have hkp : Fl.kept m = m * 2 ^ (52 - m.log2) := by unfold Fl.kept; rw [if_pos c]
    have hlt : m * 2 ^ (52 - m.log2) < 9007199254740992 := by
      have h2 := Fl.log2_hi m
      have e2 : 2 ^ (m.log2 + 1) * 2 ^ (52 - m.log2) = 9007199254740992 := by rw [← Nat.pow_add]; rw [show m.log2 + 1 + (52 - m.log2) = 53 by omega]
      have := Nat.mul_lt_mul_of_pos_right h2 (Nat.two_pow_pos (52 - m.log2))
      omega
    have q1 := shl_nat (m := m) (i := 52 - m.log2) (by omega) (by omega)
    have q2 : (IntKind.wrap IntKind.u64 ((BitVec.toNat ((BitVec.ofInt (64 : Nat) ((m * 2 ^ (52 - m.log2) : Nat) : Int)) &&& (BitVec.ofInt (64 : Nat) (4503599627370495 : Int))) : Nat) : Int)) = _ := and_52 (n := m * 2 ^ (52 - m.log2)) (by omega)
    have q3 := parts s (e := m.log2 + 1023) (f := m * 2 ^ (52 - m.log2) % 4503599627370496) (by omega) (by omega)
    simp only [transomref02_FromInt.s1, transomref02_FromInt.s1c, e64, e2, e1, e3, q1, q2, hexp, q3, decide_true, decide_false, cond_true, cond_false]
    unfold fin
    rw [if_pos hx, hn]
    have : m * 2 ^ (52 - m.log2) % 4503599627370496 = Fl.kept m - 4503599627370496 := by rw [← hkp]; omega
    generalize (if s = true then 9223372036854775808 else 0 : Nat) = A
    have e9 : A + (m.log2 + 1023) * 4503599627370496 + m * 2 ^ (52 - m.log2) % 4503599627370496 = A + ((m.log2 + 1022) * 4503599627370496 + Fl.kept m) := by omega
    rw [e9]
  · have e1 : IntKind.wrap IntKind.u64 (IntKind.wrap IntKind.i64 ((m.log2 : Int) - 52)) = ((m.log2 - 52 : Nat) : Int) := by rw [i64w (by omega) (by omega), u64w (by omega) (by omega)]; omega
    have e2 : (m.log2 : Int) > 52 := by omega
    have e3 : (0 : Int) ≤ ((m.log2 - 52 : Nat) : Int) := by omega
    have hp : 0 < 2 ^ (m.log2 - 52) := Nat.two_pow_pos _
    have hp11 : 2 ^ (m.log2 - 52) ≤ 2 ^ 11 := Nat.pow_le_pow_right (by omega) (by omega)
    have es : (IntKind.wrap IntKind.u64 ((1 : Int) * ((2 : Int) ^ (Min.min (Int.toNat ((m.log2 - 52 : Nat) : Int)) (64 : Nat))))) = ((2 ^ (m.log2 - 52) : Nat) : Int) := by
      have := shl_nat (m := 1) (i := m.log2 - 52) (by omega) (by omega)
      rw [Nat.one_mul] at this
      exact this
    have em : IntKind.wrap IntKind.u64 ((((2 ^ (m.log2 - 52) : Nat) : Int)) - 1) = ((2 ^ (m.log2 - 52) - 1 : Nat) : Int) := by rw [u64w (by omega) (by omega)]; omega
    have q1 := amask (n := m) (j := m.log2 - 52) rfl h (by omega)
    have q2 := shr_nat (m := m) (i := m.log2 - 52) (by omega)
    have q4 : (IntKind.wrap IntKind.u64 ((BitVec.toNat ((BitVec.ofInt (64 : Nat) ((m / 2 ^ (m.log2 - 52) : Nat) : Int)) &&& (BitVec.ofInt (64 : Nat) (4503599627370495 : Int))) : Nat) : Int)) = _ := and_52 (n := m / 2 ^ (m.log2 - 52)) (by have := Nat.div_le_self m (2 ^ (m.log2 - 52)); omega)
    have q3 := parts s (e := m.log2 + 1023) (f := m / 2 ^ (m.log2 - 52) % 4503599627370496) (by omega) (by omega)
    simp only [transomref02_FromInt.s1, transomref02_FromInt.s1c, e64, e2, e1, e3, es, em, q1, q2, q4, hexp, q3, decide_true, decide_false, cond_true, cond_false]
    unfold fin
    by_cases r : m % 2 ^ (m.log2 - 52) = 0
    · have hx : Fl.exact m = true := by unfold Fl.exact; simp [r]
      have hkp : Fl.kept m = m / 2 ^ (m.log2 - 52) := by unfold Fl.kept; rw [if_neg c, if_neg (by omega)]; omega
      have hlt : m / 2 ^ (m.log2 - 52) < 9007199254740992 := by
        have h2 := Fl.log2_hi m
        have e2 : 2 ^ (m.log2 + 1) = 9007199254740992 * 2 ^ (m.log2 - 52) := by
          rw [show (9007199254740992 : Nat) = 2 ^ 53 from rfl, ← Nat.pow_add]; congr 1; omega
        exact (Nat.div_lt_iff_lt_mul hp).2 (by omega)
      have : m / 2 ^ (m.log2 - 52) % 4503599627370496 = Fl.kept m - 4503599627370496 := by rw [← hkp]; omega
      generalize (if s = true then 9223372036854775808 else 0 : Nat) = A
      have e9 : A + (m.log2 + 1023) * 4503599627370496 + m / 2 ^ (m.log2 - 52) % 4503599627370496 = A + ((m.log2 + 1022) * 4503599627370496 + Fl.kept m) := by omega
      rw [r, if_pos hx, hn, e9]; rfl
    · have hx : ¬ Fl.exact m = true := by unfold Fl.exact; simp [c, r]
      have hb : (((m % 2 ^ (m.log2 - 52) : Nat) : Int) != 0) = true := by rw [bne_iff_ne]; omega
      rw [hb, if_neg hx]; rfl
theorem bit_at {m i : Nat} (h : m < 18446744073709551616) (hi : i ≤ 63) : (IntKind.wrap IntKind.u64 ((BitVec.toNat ((BitVec.ofInt (64 : Nat) (Int.fdiv (m : Int) ((2 : Int) ^ (Min.min (Int.toNat (i : Int)) (64 : Nat))))) &&& (BitVec.ofInt (64 : Nat) (1 : Int))) : Nat) : Int)) = ((m / 2 ^ i % 2 : Nat) : Int) := by
  rw [shr_nat (by omega)]
  exact and_1 (by have := Nat.div_le_self m (2 ^ i); omega)
theorem above (s : Bool) {m : Nat} (h0 : m ≠ 0) (h : m < 18446744073709551616) : ∀ (d i k : Nat), i + d = 64 → m.log2 < i → 2 * d < k →
    transomref02_FromInt.s1 k ((if s = true then 9223372036854775808 else 0 : Nat) : Int) (m : Int) (m.log2 : Int) (i : Int) = fin s m := by
  intro d
  induction d with
  | zero =>
    intro i k hi hl hk
    obtain ⟨k, rfl⟩ : ∃ j, k = j + 1 := ⟨k - 1, by omega⟩
    exact fin_eq s h0 h k i (by omega)
  | succ d ih =>
    intro i k hi hl hk
    obtain ⟨k, rfl⟩ : ∃ j, k = j + 2 := ⟨k - 2, by omega⟩
    have hz : m / 2 ^ i = 0 := Nat.div_eq_of_lt (Nat.lt_of_lt_of_le (Fl.log2_hi m) (Nat.pow_le_pow_right (by omega) (by omega)))
    have e1 : IntKind.wrap IntKind.i64 ((i : Int) + 1) = ((i + 1 : Nat) : Int) := by rw [i64w (by omega) (by omega)]; omega
    have e2 : (i : Int) < 64 := by omega
    have e3 : IntKind.wrap IntKind.u64 (i : Int) = (i : Int) := u64w (by omega) (by omega)
    have e4 : (0 : Int) ≤ (i : Int) := by omega
    have e5 : (((0 % 2 : Nat) : Int) == 1) = false := rfl
    have b := bit_at h (show i ≤ 63 by omega)
    rw [hz] at b
    simp only [transomref02_FromInt.s1, transomref02_FromInt.s1c, transomref02_FromInt.s2, transomref02_FromInt.s2c, e1, e2, e3, e4, b, e5, decide_true, cond_true, cond_false, Option.bind_fun_some]
    exact ih (i + 1) k (by omega) (by omega) (by omega)
theorem upto (s : Bool) {m : Nat} (h0 : m ≠ 0) (h : m < 18446744073709551616) : ∀ (d i k : Nat) (t : Int), i + d = m.log2 → 140 + 2 * d ≤ k →
    transomref02_FromInt.s1 k ((if s = true then 9223372036854775808 else 0 : Nat) : Int) (m : Int) t (i : Int) = fin s m := by
  have hl := Fl.log2_64 h h0
  intro d
  induction d with
  | zero =>
    intro i k t hi hk
    obtain ⟨k, rfl⟩ : ∃ j, k = j + 2 := ⟨k - 2, by omega⟩
    obtain rfl : i = m.log2 := by omega
    have ho : m / 2 ^ m.log2 = 1 := by
      have h1 := Fl.log2_lo h0
      have h2 := Fl.log2_hi m
      rw [Nat.pow_succ] at h2
      have hp : 0 < 2 ^ m.log2 := Nat.two_pow_pos _
      have a : 1 ≤ m / 2 ^ m.log2 := (Nat.le_div_iff_mul_le hp).2 (by omega)
      have b : m / 2 ^ m.log2 < 2 := (Nat.div_lt_iff_lt_mul hp).2 (by omega)
      omega
    have e1 : IntKind.wrap IntKind.i64 ((m.log2 : Int) + 1) = ((m.log2 + 1 : Nat) : Int) := by rw [i64w (by omega) (by omega)]; omega
    have e2 : (m.log2 : Int) < 64 := by omega
    have e3 : IntKind.wrap IntKind.u64 (m.log2 : Int) = (m.log2 : Int) := u64w (by omega) (by omega)
    have e4 : (0 : Int) ≤ (m.log2 : Int) := by omega
    have e5 : (((1 % 2 : Nat) : Int) == 1) = true := rfl
    have b := bit_at h (show m.log2 ≤ 63 by omega)
    rw [ho] at b
    simp only [transomref02_FromInt.s1, transomref02_FromInt.s1c, transomref02_FromInt.s2, transomref02_FromInt.s2c, e1, e2, e3, e4, b, e5, decide_true, cond_true, cond_false, Option.bind_fun_some]
    exact above s h0 h (63 - m.log2) (m.log2 + 1) k (by omega) (by omega) (by omega)
  | succ d ih =>
    intro i k t hi hk
    obtain ⟨k, rfl⟩ : ∃ j, k = j + 2 := ⟨k - 2, by omega⟩
    have e1 : IntKind.wrap IntKind.i64 ((i : Int) + 1) = ((i + 1 : Nat) : Int) := by rw [i64w (by omega) (by omega)]; omega
    have e2 : (i : Int) < 64 := by omega
    have e3 : IntKind.wrap IntKind.u64 (i : Int) = (i : Int) := u64w (by omega) (by omega)
    have e4 : (0 : Int) ≤ (i : Int) := by omega
    have b := bit_at h (show i ≤ 63 by omega)
    simp only [transomref02_FromInt.s1, transomref02_FromInt.s1c, transomref02_FromInt.s2, transomref02_FromInt.s2c, e1, e2, e3, e4, b, decide_true, cond_true, cond_false, Option.bind_fun_some]
    cases (((m / 2 ^ i % 2 : Nat) : Int) == 1)
    · exact ih (i + 1) k _ (by omega) (by omega)
    · exact ih (i + 1) k _ (by omega) (by omega)
theorem reffrom_eq {n : Int} (h0 : -9223372036854775808 ≤ n) (h1 : n ≤ 9223372036854775807) (k : Nat) (hk : 300 ≤ k) : transomref02_FromInt.f k n = some (fromI n) := by
  obtain ⟨k, rfl⟩ : ∃ j, k = j + 1 := ⟨k - 1, by omega⟩
  simp only [transomref02_FromInt.f, transomref02_FromInt.c, Option.bind_fun_some]
  by_cases z : n = 0
  · subst z
    have : fromI 0 = (0, true) := by decide +kernel
    rw [this]; rfl
  · have hm : n.natAbs < 18446744073709551616 := by omega
    have hm0 : n.natAbs ≠ 0 := by omega
    have hl := Fl.log2_64 hm hm0
    have hw := wd_eq hm
    rw [beq_eq_false_iff_ne.2 z, cond_false]
    have key : ∀ s : Bool, (s = true ↔ n < 0) → fin s n.natAbs = some (fromI n) := by
      intro s hs
      unfold fin fromI
      rw [hw]
      cases s
      · rw [if_neg (show ¬ n < 0 by intro q; exact absurd (hs.2 q) (by simp))]; simp
      · rw [if_pos (hs.1 rfl)]; simp
    by_cases c : n < 0
    · have e : IntKind.wrap IntKind.u64 ((0 : Int) - IntKind.wrap IntKind.u64 n) = (n.natAbs : Int) := by rw [u64m, u64m]; omega
      rw [decide_eq_true c, cond_true, e]
      have := upto true hm0 hm n.natAbs.log2 0 k 0 (by omega) (by omega)
      rw [← key true (by simp [c])]
      simp only [transomref02_FromInt.s0, transomref02_FromInt.s0c, Option.bind_fun_some]
      exact this
    · have e : IntKind.wrap IntKind.u64 n = (n.natAbs : Int) := by rw [u64m]; omega
      rw [decide_eq_false c, cond_false, e]
      have := upto false hm0 hm n.natAbs.log2 0 k 0 (by omega) (by omega)
      rw [← key false (by simp [c])]
      simp only [transomref02_FromInt.s0, transomref02_FromInt.s0c, Option.bind_fun_some]
      exact this
/-- A normal word's magnitude without its fraction. -/
theorem T_normal {r : Nat} (h : 4503599627370496 ≤ r) : Fl.T r = (if 1075 ≤ r / 4503599627370496 then (4503599627370496 + r % 4503599627370496) * 2 ^ (r / 4503599627370496 - 1075) else (4503599627370496 + r % 4503599627370496) / 2 ^ (1075 - r / 4503599627370496))
    ∧ (Fl.V r = Fl.T r * 2 ^ Fl.Z ↔ (1075 ≤ r / 4503599627370496 ∨ (4503599627370496 + r % 4503599627370496) % 2 ^ (1075 - r / 4503599627370496) = 0)) := by
  have hq : 1 ≤ r / 4503599627370496 := by omega
  have hZ := Fl.Z_eq
  have hV : Fl.V r = (4503599627370496 + r % 4503599627370496) * 2 ^ (r / 4503599627370496 - 1) := by unfold Fl.V; rw [if_neg (by omega)]
  generalize 4503599627370496 + r % 4503599627370496 = M at hV
  generalize r / 4503599627370496 = q at hq hV
  unfold Fl.T
  rw [hV]
  by_cases c : 1075 ≤ q
  · have e : 2 ^ (q - 1) = 2 ^ (q - 1075) * 2 ^ Fl.Z := by rw [← Nat.pow_add]; congr 1; omega
    rw [if_pos c, e, ← Nat.mul_assoc, Nat.mul_div_cancel _ (Nat.two_pow_pos _)]
    exact ⟨rfl, ⟨fun _ => .inl c, fun _ => rfl⟩⟩
  · have e : 2 ^ Fl.Z = 2 ^ (1075 - q) * 2 ^ (q - 1) := by rw [← Nat.pow_add]; congr 1; omega
    have hp : 0 < 2 ^ (q - 1) := Nat.two_pow_pos _
    rw [if_neg c, e, Nat.mul_div_mul_right _ _ hp]
    refine ⟨rfl, ?_⟩
    rw [← Nat.mul_assoc]
    constructor
    · intro h
      right
      have := Nat.eq_of_mul_eq_mul_right hp h
      rw [this]
      exact Nat.mul_mod_left _ _
    · rintro (h | h)
      · exact absurd h c
      · rw [Nat.div_mul_cancel (Nat.dvd_of_mod_eq_zero h)]
theorem or_lead {f : Nat} (hf : f < 4503599627370496) : (IntKind.wrap IntKind.u64 ((BitVec.toNat ((BitVec.ofInt (64 : Nat) (f : Int)) ||| (BitVec.ofInt (64 : Nat) (4503599627370496 : Int))) : Nat) : Int)) = ((4503599627370496 + f : Nat) : Int) := by
  have h1 := Go.u64_or_nat f 4503599627370496 (by omega) (by omega)
  have h2 := Nat.two_pow_add_eq_or_of_lt (i := 52) hf 1
  have h3 : f ||| 4503599627370496 = 4503599627370496 + f := by rw [Nat.or_comm]; exact h2.symm
  rw [h3] at h1
  exact h1
/-- When is a word a number? -/
theorem is_eq (n : Nat) : isI n = true ↔ Fl.rung n ≤ Fl.inf ∧ -4890909195324358656 ≤ Fl.key n ∧ Fl.key n < 4890909195324358656 ∧ Fl.V (Fl.rung n) = Fl.T (Fl.rung n) * 2 ^ Fl.Z := by
  unfold isI
  simp only [Bool.and_eq_true, decide_eq_true_eq]
  constructor
  · rintro ⟨⟨⟨a, b⟩, c⟩, d⟩
    have hk := Fl.rung_key n
    have hx := Fl.T_whole (r := Fl.rung n) (by unfold Fl.inf; omega)
    refine ⟨a, b, c, ?_⟩
    rw [← Fl.V_exact hx, d]
  · rintro ⟨a, b, c, d⟩
    have hk := Fl.rung_key n
    have hx := Fl.T_whole (r := Fl.rung n) (by unfold Fl.inf; omega)
    refine ⟨⟨⟨a, b⟩, c⟩, ?_⟩
    rw [← Fl.V_inj, Fl.V_exact hx, d]
theorem top_eq {n : Nat} : (Int.fdiv (n : Int) (9223372036854775808 : Int) == 1) = (n / 9223372036854775808 == 1) := by
  rw [Int.fdiv_eq_ediv_of_nonneg _ (by omega), Bool.eq_iff_iff, beq_iff_eq, beq_iff_eq]; omega
theorem j1_eq {n m : Nat} (h : n < 18446744073709551616) (hm : m < 18446744073709551616) (k : Nat) : transomref02_ToInt.s2 (k + 1) (n : Int) (m : Int) =
    some (if m ≤ (if 9223372036854775808 ≤ n then 9223372036854775808 else 9223372036854775807) then (Fl.sg (Fl.neg n) m, true) else (0, false)) := by
  have hneg : Fl.neg n = decide (9223372036854775808 ≤ n) := by
    unfold Fl.neg
    by_cases c : 9223372036854775808 ≤ n
    · rw [decide_eq_true c, beq_iff_eq]; omega
    · rw [decide_eq_false c, beq_eq_false_iff_ne]; omega
  simp only [transomref02_ToInt.s2, transomref02_ToInt.s2c, top_eq]
  rw [hneg]
  unfold Fl.sg
  by_cases c : 9223372036854775808 ≤ n
  · have b : (n / 9223372036854775808 == 1) = true := by rw [beq_iff_eq]; omega
    rw [b, cond_true, decide_eq_true c, if_pos rfl, if_pos c]
    by_cases d : m ≤ 9223372036854775808
    · have e : ¬ (m : Int) > 9223372036854775808 := by omega
      rw [decide_eq_false e, if_pos d, cond_false]
      congr 2
      rw [u64m, IntKind.wrap_i64]; omega
    · have e : (m : Int) > 9223372036854775808 := by omega
      rw [decide_eq_true e, if_neg d, cond_true]
  · have b : (n / 9223372036854775808 == 1) = false := by rw [beq_eq_false_iff_ne]; omega
    rw [b, cond_false, decide_eq_false c, if_neg c]
    simp only [Bool.false_eq_true, if_false]
    by_cases d : m ≤ 9223372036854775807
    · have e : ¬ (m : Int) > 9223372036854775807 := by omega
      rw [decide_eq_false e, if_pos d, i64w (by omega) (by omega), cond_false]
    · have e : (m : Int) > 9223372036854775807 := by omega
      rw [decide_eq_true e, if_neg d, cond_true]
theorem refto_eq {n : Nat} (h : n < 18446744073709551616) (k : Nat) (hk5 : 20 ≤ k) : transomref02_ToInt.f k (n : Int) = some (toI n) := by
  obtain ⟨k, rfl⟩ : ∃ j, k = j + 3 := ⟨k - 3, by omega⟩
  have hr := rung_lt n
  have hi : Fl.inf = 9218868437227405312 := rfl
  have his := is_eq n
  have hk := Fl.rung_key n
  have hneg : Fl.neg n = decide (9223372036854775808 ≤ n) := by
    unfold Fl.neg
    by_cases c : 9223372036854775808 ≤ n
    · rw [decide_eq_true c, beq_iff_eq]; omega
    · rw [decide_eq_false c, beq_eq_false_iff_ne]; omega
  have hkey : Fl.key n = if 9223372036854775808 ≤ n then -(Fl.rung n : Int) else (Fl.rung n : Int) := by
    unfold Fl.key; rw [hneg]
    by_cases c : 9223372036854775808 ≤ n
    · rw [decide_eq_true c, if_pos rfl, if_pos c]
    · rw [decide_eq_false c, if_neg (by simp), if_neg c]
  have no : ¬ (isI n = true) → toI n = (0, false) := by
    intro q
    unfold toI
    rw [if_neg q]
  have yes : isI n = true → toI n = (Fl.sg (Fl.neg n) (Fl.T (Fl.rung n)), true) := by
    intro q
    unfold toI
    rw [if_pos q]
  have T0 : Fl.T 0 = 0 := by unfold Fl.T; rw [Fl.V_zero]; exact Nat.zero_div _
  simp only [transomref02_ToInt.f, transomref02_ToInt.c, refclass_eq h, frac_eq h, exp_eq h, Option.bind_some, Option.bind_fun_some]
  have n53 : ((5 : Int) == 3) = false := rfl
  unfold classOf
  by_cases c1 : Fl.inf < Fl.rung n
  · rw [if_pos c1, no (fun q => by have := (his.1 q).1; omega)]; rfl
  rw [if_neg c1]
  by_cases c2 : Fl.rung n = Fl.inf
  · rw [if_pos c2, no (fun q => by have := his.1 q; omega)]; rfl
  rw [if_neg c2]
  by_cases c3 : Fl.rung n = 0
  · rw [if_pos c3, yes (his.2 (by rw [c3, T0, Fl.V_zero, Nat.zero_mul]; omega)), c3, T0]
    unfold Fl.sg
    split <;> rfl
  rw [if_neg c3]
  by_cases c4 : Fl.rung n < 4503599627370496
  · rw [if_pos c4, no]
    · rfl
    intro q
    have hv := (his.1 q).2.2.2
    have h2 : Fl.V (Fl.rung n) = Fl.rung n := by unfold Fl.V; rw [if_pos c4]
    have hT : Fl.T (Fl.rung n) = 0 := by
      unfold Fl.T; rw [h2]
      have : 2 ^ 52 ≤ 2 ^ Fl.Z := Nat.pow_le_pow_right (by omega) (by rw [Fl.Z_eq]; omega)
      exact Nat.div_eq_of_lt (by omega)
    rw [hT, Nat.zero_mul, h2] at hv
    exact c3 hv
  rw [if_neg c4]
  have b1 : ((5 : Int) == 3) = false := rfl
  have b2 : ((5 : Int) != 5) = false := rfl
  rw [b1, b2, cond_false, cond_false]
  obtain ⟨hT, hV⟩ := T_normal (r := Fl.rung n) (by omega)
  have hfl : Fl.rung n % 4503599627370496 < 4503599627370496 := Nat.mod_lt _ (by omega)
  rw [or_lead hfl]
  have hM : 4503599627370496 ≤ 4503599627370496 + Fl.rung n % 4503599627370496 ∧ 4503599627370496 + Fl.rung n % 4503599627370496 < 9007199254740992 := by omega
  have hrq : Fl.rung n = Fl.rung n / 4503599627370496 * 4503599627370496 + Fl.rung n % 4503599627370496 := by omega
  have hq1 : 1 ≤ Fl.rung n / 4503599627370496 := by omega
  have hq2 : Fl.rung n / 4503599627370496 ≤ 2046 := by omega
  generalize hMe : 4503599627370496 + Fl.rung n % 4503599627370496 = M at hT hV hM ⊢
  generalize hqe : Fl.rung n / 4503599627370496 = q at hT hV hrq hq1 hq2 ⊢
  have ew : IntKind.wrap IntKind.i64 (IntKind.wrap IntKind.i64 ((q : Int) - 1023) - 52) = (q : Int) - 1075 := by rw [i64w (n := (q : Int) - 1023) (by omega) (by omega), i64w (by omega) (by omega)]; omega
  rw [ew]
  by_cases lo : (q : Int) - 1075 < -52
  · rw [decide_eq_true lo, cond_true, no]
    · simp only [transomref02_ToInt.s0, transomref02_ToInt.s0c, cond_true]
    intro z
    have hv := (his.1 z).2.2.2
    rcases hV.1 hv with e | e
    · omega
    · have : 2 ^ 53 ≤ 2 ^ (1075 - q) := Nat.pow_le_pow_right (by omega) (by omega)
      rw [Nat.mod_eq_of_lt (by omega)] at e
      omega
  rw [decide_eq_false lo, cond_false]
  by_cases up : (q : Int) - 1075 > 11
  · rw [decide_eq_true up, no]
    · simp only [transomref02_ToInt.s0, transomref02_ToInt.s0c, cond_true]
    intro z
    have := his.1 z
    omega
  rw [decide_eq_false up]
  by_cases sg : (q : Int) - 1075 < 0
  · have e1 : IntKind.wrap IntKind.u64 (IntKind.wrap IntKind.i64 (0 - ((q : Int) - 1075))) = ((1075 - q : Nat) : Int) := by rw [i64w (by omega) (by omega), u64w (by omega) (by omega)]; omega
    have e3 : (0 : Int) ≤ ((1075 - q : Nat) : Int) := by omega
    have hp : 0 < 2 ^ (1075 - q) := Nat.two_pow_pos _
    have hp52 : 2 ^ (1075 - q) ≤ 2 ^ 52 := Nat.pow_le_pow_right (by omega) (by omega)
    have es : (IntKind.wrap IntKind.u64 ((1 : Int) * ((2 : Int) ^ (Min.min (Int.toNat ((1075 - q : Nat) : Int)) (64 : Nat))))) = ((2 ^ (1075 - q) : Nat) : Int) := by
      have := shl_nat (m := 1) (i := 1075 - q) (by omega) (by omega)
      rw [Nat.one_mul] at this
      exact this
    have em : IntKind.wrap IntKind.u64 ((((2 ^ (1075 - q) : Nat) : Int)) - 1) = ((2 ^ (1075 - q) - 1 : Nat) : Int) := by rw [u64w (by omega) (by omega)]; omega
    have q1 := amask (n := M) (j := 1075 - q) rfl (by omega) (by omega)
    have q2 := shr_nat (m := M) (i := 1075 - q) (by omega)
    have hd := Nat.div_le_self M (2 ^ (1075 - q))
    have jj := j1_eq (m := M / 2 ^ (1075 - q)) h (by omega) k
    rw [if_neg (by omega)] at hT
    simp only [transomref02_ToInt.s0, transomref02_ToInt.s0c, transomref02_ToInt.s1, transomref02_ToInt.s1c, cond_false, sg, e1, e3, es, em, q1, q2, jj, decide_true, cond_true, Option.bind_fun_some]
    by_cases r : M % 2 ^ (1075 - q) = 0
    · rw [r, if_pos (by split <;> omega), yes (his.2 ⟨by omega, by omega, by rw [hkey]; split <;> omega, hV.2 (.inr r)⟩), hT]; rfl
    · have hb : (((M % 2 ^ (1075 - q) : Nat) : Int) != 0) = true := by rw [bne_iff_ne]; omega
      rw [hb, no]
      · rfl
      intro z
      have hv := (his.1 z).2.2.2
      rcases hV.1 hv with e | e
      · omega
      · exact r e
  · have e1 : IntKind.wrap IntKind.u64 ((q : Int) - 1075) = ((q - 1075 : Nat) : Int) := by rw [u64w (by omega) (by omega)]; omega
    have e3 : (0 : Int) ≤ ((q - 1075 : Nat) : Int) := by omega
    have hp : 0 < 2 ^ (q - 1075) := Nat.two_pow_pos _
    rw [if_pos (by omega)] at hT
    have hb : M * 2 ^ (q - 1075) < 18446744073709551616 := by
      have : 2 ^ (q - 1075) ≤ 2 ^ 11 := Nat.pow_le_pow_right (by omega) (by omega)
      calc M * 2 ^ (q - 1075) ≤ M * 2 ^ 11 := Nat.mul_le_mul_left _ this
        _ < 18446744073709551616 := by omega
    have q1 := shl_nat (m := M) (i := q - 1075) (by omega) hb
    have jj := j1_eq (m := M * 2 ^ (q - 1075)) h hb k
    simp only [transomref02_ToInt.s0, transomref02_ToInt.s0c, transomref02_ToInt.s1, transomref02_ToInt.s1c, cond_false, sg, e1, e3, q1, jj, decide_true, decide_false, cond_true, Option.bind_fun_some]
    rw [← hT]
    have fits : Fl.T (Fl.rung n) ≤ (if 9223372036854775808 ≤ n then 9223372036854775808 else 9223372036854775807) ↔ -4890909195324358656 ≤ Fl.key n ∧ Fl.key n < 4890909195324358656 := by
      rw [hkey, hT]
      rcases Nat.lt_or_ge q 1086 with d | d
      · have h10 : 2 ^ (q - 1075) ≤ 2 ^ 10 := Nat.pow_le_pow_right (by omega) (by omega)
        have hle : M * 2 ^ (q - 1075) ≤ M * 2 ^ 10 := Nat.mul_le_mul_left _ h10
        split <;> constructor <;> intro <;> omega
      · obtain rfl : q = 1086 := by omega
        rw [show 2 ^ (1086 - 1075) = 2048 from rfl]
        split <;> constructor <;> intro <;> omega
    by_cases f : Fl.T (Fl.rung n) ≤ (if 9223372036854775808 ≤ n then 9223372036854775808 else 9223372036854775807)
    · rw [if_pos f, yes (his.2 ⟨by omega, (fits.1 f).1, (fits.1 f).2, hV.2 (.inl (by omega))⟩)]
    · rw [if_neg f, no]
      intro z
      have := his.1 z
      exact f (fits.2 ⟨this.2.1, this.2.2.1⟩)
end Go.Proofs.Ytndkobhclggeiaa.Aev
