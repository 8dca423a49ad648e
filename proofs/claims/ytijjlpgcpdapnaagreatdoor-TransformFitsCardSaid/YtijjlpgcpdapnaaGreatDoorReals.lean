import Derived.Test.YtijjlpgcpdapnaaGreatDoorF3
import Derived.Test.YtijjlpgcpdapnaaGreatDoorF4
import Derived.Test.YtijjlpgcpdapnaaGreatDoorFloatInt
import Derived.Test.YtijjlpgcpdapnaaGreatDoorVals

/- The real that a number is, and the number that a real is: the program's and the document's ways. -/
namespace Go.Proofs.YtijjlpgcpdapnaaGreatDoor.Aev
open Go
set_option linter.unusedVariables false
set_option linter.unusedSimpArgs false
set_option maxRecDepth 100000
def wd (n : Int) : Nat := Ieee.double.word (decide (n < 0)) (Fl.near n.natAbs)
theorem wd_eq {n : Int} (h : n.natAbs < 18446744073709551616) : wd n = if n < 0 then 9223372036854775808 + Fl.near n.natAbs else Fl.near n.natAbs := by
 unfold wd Ieee.Format.word
 rw [Fl.sw]
 by_cases c : n < 0
 ·rw [decide_eq_true c, if_pos rfl, if_pos c]
 ·rw [decide_eq_false c, if_neg (by simp), if_neg c]
theorem near_inf {m : Nat} (h : m < 18446744073709551616) : Fl.near m < 9218868437227405312 := Fl.near_lt h
theorem wd_lt {n : Int} (h : n.natAbs < 18446744073709551616) : wd n < 18446744073709551616 := by
 have := near_inf h
 rw [wd_eq h]; split <;> omega
theorem wd_rung {n : Int} (h : n.natAbs < 18446744073709551616) : Fl.rung (wd n) = Fl.near n.natAbs ∧ Fl.neg (wd n) = decide (n < 0) :=
 Fl.word_rung (Nat.le_of_lt (Fl.near_lt h))
def isI (n : Nat) : Bool := decide (Fl.rung n ≤ Fl.inf) && decide (-4890909195324358656 ≤ Fl.key n) && decide (Fl.key n < 4890909195324358656) && decide (Fl.near (Fl.T (Fl.rung n)) = Fl.rung n)
def toI (n : Nat) : Int × Bool := if isI n = true then (Fl.sg (Fl.neg n) (Fl.T (Fl.rung n)), true) else (0, false)
def fromI (n : Int) : Int × Bool := if Fl.exact n.natAbs = true then ((wd n : Int), true) else (0, false)
theorem edges : Fl.key 4890909195324358656 = 4890909195324358656 ∧ Fl.rung 4890909195324358656 = 4890909195324358656 ∧ Fl.key 14114281232179134464 = -4890909195324358656 ∧ Fl.rung 14114281232179134464 = 4890909195324358656 := by decide
theorem toint_f (n : Nat) (k : Nat) : reals_ToInt.f k (n : Int) = some (toI n) := by
 obtain ⟨he1, he2, he3, he4⟩ := edges
 have fm : FloatKind.f64.format = Ieee.double := rfl
 have hi : (4890909195324358656 : Nat) ≤ Fl.inf := by decide
 unfold toI
 by_cases c1 : Fl.rung n ≤ Fl.inf
 case neg =>
  have hf : isI n = false := by unfold isI; rw [decide_eq_false c1]; rfl
  have h1 : (FloatKind.f64.format.order n n != some .eq) = true := by rw [fm, Fl.order_nan_left (by omega)]; rfl
  simp only [reals_ToInt.f, reals_ToInt.c, math_Float64frombits.f, os, Int.toNat_natCast, h1, cond_true, hf, Bool.false_eq_true, if_false]
 have h1 : (FloatKind.f64.format.order n n != some .eq) = false := by rw [fm, Fl.order_key c1 c1, Fl.compare_eq rfl]; rfl
 have o2 := Fl.order_key (x := n) (y := 14114281232179134464) c1 (by rw [he4]; exact hi)
 have o3 := Fl.order_key (x := n) (y := 4890909195324358656) c1 (by rw [he2]; exact hi)
 rw [he3] at o2
 rw [he1] at o3
 by_cases c2 : -4890909195324358656 ≤ Fl.key n
 case neg =>
  have hf : isI n = false := by unfold isI; rw [decide_eq_false c2]; simp
  have h2 : (FloatKind.f64.format.order n 14114281232179134464 == some .lt) = true := by rw [fm, o2, Fl.compare_lt (by omega)]; rfl
  simp only [reals_ToInt.f, reals_ToInt.c, math_Float64frombits.f, os, Int.toNat_natCast, h1, h2, cond_true, cond_false, hf, Bool.false_eq_true, if_false]
 have h2 : (FloatKind.f64.format.order n 14114281232179134464 == some .lt) = false := by
  rw [fm, o2]
  rcases Int.lt_or_eq_of_le c2 with e | e
  ·rw [Fl.compare_gt e]; rfl
  ·rw [Fl.compare_eq e.symm]; rfl
 by_cases c3 : Fl.key n < 4890909195324358656
 case neg =>
  have hf : isI n = false := by unfold isI; rw [decide_eq_false c3]; simp
  have h3 : (FloatKind.f64.format.order n 4890909195324358656 == some .gt || FloatKind.f64.format.order n 4890909195324358656 == some .eq) = true := by
   rw [fm, o3]
   rcases Int.lt_or_eq_of_le (Int.not_lt.1 c3) with e | e
   ·rw [Fl.compare_gt e]; rfl
   ·rw [Fl.compare_eq e.symm]; rfl
  simp only [reals_ToInt.f, reals_ToInt.c, math_Float64frombits.f, os, Int.toNat_natCast, h1, h2, h3, cond_true, cond_false, hf, Bool.false_eq_true, if_false]
 have h3 : (FloatKind.f64.format.order n 4890909195324358656 == some .gt || FloatKind.f64.format.order n 4890909195324358656 == some .eq) = false := by
  rw [fm, o3, Fl.compare_lt c3]; rfl
 have hk := Fl.rung_key n
 have hlt : Fl.rung n ≤ 4890909195324358656 := by omega
 have hri : Fl.rung n < Fl.inf := by unfold Fl.inf; omega
 have hT : Fl.T (Fl.rung n) ≤ 9223372036854775808 := by have := Fl.T_mono hlt; rw [Fl.T_edge] at this; exact this
 have hpos : Fl.neg n = false → Fl.T (Fl.rung n) ≤ 9223372036854774784 := by
  intro hn
  have e : Fl.key n = (Fl.rung n : Int) := by unfold Fl.key; rw [hn]; simp
  have := Fl.T_mono (show Fl.rung n ≤ 4890909195324358655 by omega)
  rw [Fl.T_below] at this
  exact this
 have hto : Ieee.Datum.toInt Ieee.Toward.zero (FloatKind.decode FloatKind.f64 n) = some (Fl.sg (Fl.neg n) (Fl.T (Fl.rung n))) := Fl.toInt_eq hri
 have b1 : (-9223372036854775808 : Int) ≤ Fl.sg (Fl.neg n) (Fl.T (Fl.rung n)) := by unfold Fl.sg; split <;> omega
 have b2 : Fl.sg (Fl.neg n) (Fl.T (Fl.rung n)) ≤ (9223372036854775807 : Int) := by
  unfold Fl.sg
  cases hn : Fl.neg n
  ·have := hpos hn; rw [if_neg (by simp)]; omega
  ·rw [if_pos rfl]; omega
 have hnl := Fl.near_lt (m := Fl.T (Fl.rung n)) (by omega)
 obtain ⟨wr, wn⟩ := Fl.word_rung (s := Fl.neg n) (r := Fl.near (Fl.T (Fl.rung n))) (Nat.le_of_lt hnl)
 have ot := Fl.order_key (x := n) (y := Ieee.double.word (Fl.neg n) (Fl.near (Fl.T (Fl.rung n)))) c1 (by rw [wr]; omega)
 have kt : Fl.key (Ieee.double.word (Fl.neg n) (Fl.near (Fl.T (Fl.rung n)))) = if Fl.neg n = true then -(Fl.near (Fl.T (Fl.rung n)) : Int) else (Fl.near (Fl.T (Fl.rung n)) : Int) := by
  unfold Fl.key; rw [wr, wn]
 have kn : Fl.key n = if Fl.neg n = true then -(Fl.rung n : Int) else (Fl.rung n : Int) := rfl
 have hq : (FloatKind.f64.format.order n (Ieee.double.word (Fl.neg n) (Fl.near (Fl.T (Fl.rung n)))) != some .eq) = !(isI n) := by
  have hf : isI n = decide (Fl.near (Fl.T (Fl.rung n)) = Fl.rung n) := by unfold isI; rw [decide_eq_true c1, decide_eq_true c2, decide_eq_true c3]; simp
  rw [hf, fm, ot, kt, kn]
  by_cases c : Fl.near (Fl.T (Fl.rung n)) = Fl.rung n
  ·rw [decide_eq_true c, c, Fl.compare_eq rfl]; rfl
  ·rw [decide_eq_false c]
   rcases Int.lt_or_gt_of_ne (show (if Fl.neg n = true then -(Fl.rung n : Int) else (Fl.rung n : Int)) ≠ (if Fl.neg n = true then -(Fl.near (Fl.T (Fl.rung n)) : Int) else (Fl.near (Fl.T (Fl.rung n)) : Int)) by split <;> omega) with e | e
   ·rw [Fl.compare_lt e]; rfl
   ·rw [Fl.compare_gt e]; rfl
 have htr : math_Trunc.f k n = some (Ieee.double.word (Fl.neg n) (Fl.near (Fl.T (Fl.rung n)))) := by
  simp only [math_Trunc.f, math_Trunc.c, math_archTrunc.f]
  rw [if_pos ⟨hri, by omega⟩]; rfl
 simp only [reals_ToInt.f, reals_ToInt.c, math_Float64frombits.f, os, Int.toNat_natCast, h1, h2, h3, htr, hq, hto, Option.isSome_some, Option.getD_some, b1, b2, decide_true, Bool.and_self, cond_true, cond_false]
 cases isI n <;> rfl
theorem fromint_f {n : Int} (h0 : -9223372036854775808 ≤ n) (h1 : n ≤ 9223372036854775807) (k : Nat) : reals_FromInt.f k n = some (fromI n) := by
 obtain ⟨he1, he2, _, _⟩ := edges
 have hm : n.natAbs < 18446744073709551616 := by omega
 have hF : FloatKind.nearest FloatKind.f64 n = wd n := Fl.ofInt_eq (n := n) hm
 have hlt := Fl.near_lt hm
 obtain ⟨hr, hs⟩ := wd_rung hm
 have hk : Fl.key (wd n) = if n < 0 then -(Fl.near n.natAbs : Int) else (Fl.near n.natAbs : Int) := by
  unfold Fl.key; rw [hr, hs]
  by_cases c : n < 0
  ·rw [decide_eq_true c, if_pos rfl, if_pos c]
  ·rw [decide_eq_false c, if_neg (by simp), if_neg c]
 have hord := Fl.order_key (x := wd n) (y := 4890909195324358656) (by rw [hr]; omega) (by rw [he2]; decide)
 rw [he1] at hord
 have fm : FloatKind.f64.format = Ieee.double := rfl
 have hsg : Fl.sg (Fl.neg (wd n)) (Fl.T (Fl.rung (wd n))) = if n < 0 then -(Fl.T (Fl.near n.natAbs) : Int) else (Fl.T (Fl.near n.natAbs) : Int) := by
  unfold Fl.sg; rw [hr, hs]
  by_cases c : n < 0
  ·rw [decide_eq_true c, if_pos rfl, if_pos c]
  ·rw [decide_eq_false c, if_neg (by simp), if_neg c]
 have hval : Ieee.Datum.toInt Ieee.Toward.zero (FloatKind.decode FloatKind.f64 (wd n)) = some (Fl.sg (Fl.neg (wd n)) (Fl.T (Fl.rung (wd n)))) := Fl.toInt_eq (by rw [hr]; exact hlt)
 rw [hsg] at hval
 have low : Fl.key (wd n) < 4890909195324358656 → (FloatKind.f64.format.order (wd n) 4890909195324358656 == some .gt || FloatKind.f64.format.order (wd n) 4890909195324358656 == some .eq) = false := fun q => by
  rw [fm, hord, Fl.compare_lt q]; rfl
 unfold fromI
 by_cases hx : Fl.exact n.natAbs = true
 ·rw [if_pos hx]
  have hT := Fl.T_exact hx
  rw [hT] at hval
  have hn : (if n < 0 then -(n.natAbs : Int) else (n.natAbs : Int)) = n := by split <;> omega
  rw [hn] at hval
  have hkl : Fl.key (wd n) < 4890909195324358656 := by
   rw [hk]
   by_cases c : n < 0
   ·rw [if_pos c]; omega
   ·rw [if_neg c]
    rcases Nat.lt_or_ge (Fl.near n.natAbs) 4890909195324358656 with d | d
    ·omega
    ·have := Fl.T_mono d
     rw [Fl.T_edge, hT] at this
     omega
  simp only [reals_FromInt.f, reals_FromInt.c, hF, low hkl, hval, Option.isSome_some, Option.getD_some, h0, h1, decide_true, Bool.and_self, cond_true, cond_false, bne_self_eq_false, math_Float64bits.f, os]
 ·rw [if_neg hx]
  have hx' : Fl.exact n.natAbs = false := by simpa using hx
  obtain ⟨hne, hT⟩ := Fl.T_inexact hx'
  by_cases hkl : Fl.key (wd n) < 4890909195324358656
  ·have hz : n.natAbs ≠ 0 := by intro e; rw [e] at hx'; exact absurd hx' (by decide)
   have hK : Fl.T (Fl.near n.natAbs) ≤ (if n < 0 then 9223372036854775808 else 9223372036854775807) := by
    by_cases c : n < 0
    ·rw [if_pos c, hT]
     have hne2 : n.natAbs ≠ 9223372036854775808 := by intro e; rw [e] at hx'; exact absurd hx' (by decide +kernel)
     have hl : n.natAbs.log2 ≤ 62 := by
      have := (Nat.log2_lt hz).2 (show n.natAbs < 2 ^ 63 by omega)
      omega
     have hk2 := (Fl.kept_range hz).2
     calc Fl.kept n.natAbs * 2 ^ (n.natAbs.log2 - 52) ≤ 9007199254740992 * 2 ^ (n.natAbs.log2 - 52) := Nat.mul_le_mul_right _ hk2
      _ ≤ 9007199254740992 * 2 ^ 10 := Nat.mul_le_mul_left _ (Nat.pow_le_pow_right (by omega) (by omega))
      _ = 9223372036854775808 := by decide
    ·rw [if_neg c]
     rw [hk, if_neg c] at hkl
     have := Fl.T_mono (show Fl.near n.natAbs ≤ 4890909195324358655 by omega)
     rw [Fl.T_below] at this
     omega
   have b1 : (-9223372036854775808 : Int) ≤ (if n < 0 then -(Fl.T (Fl.near n.natAbs) : Int) else (Fl.T (Fl.near n.natAbs) : Int)) := by split at hK <;> split <;> omega
   have b2 : (if n < 0 then -(Fl.T (Fl.near n.natAbs) : Int) else (Fl.T (Fl.near n.natAbs) : Int)) ≤ (9223372036854775807 : Int) := by split at hK <;> split <;> omega
   have hne3 : ((if n < 0 then -(Fl.T (Fl.near n.natAbs) : Int) else (Fl.T (Fl.near n.natAbs) : Int)) != n) = true := by rw [bne_iff_ne]; split <;> omega
   simp only [reals_FromInt.f, reals_FromInt.c, hF, low hkl, hval, Option.isSome_some, Option.getD_some, b1, b2, hne3, decide_true, Bool.and_self, cond_true, cond_false]
  ·have hh : (FloatKind.f64.format.order (wd n) 4890909195324358656 == some .gt || FloatKind.f64.format.order (wd n) 4890909195324358656 == some .eq) = true := by
    rw [fm, hord]
    rcases Int.lt_or_eq_of_le (Int.not_lt.1 hkl) with e | e
    ·rw [Fl.compare_gt e]; rfl
    ·rw [Fl.compare_eq e.symm]; rfl
   simp only [reals_FromInt.f, reals_FromInt.c, hF, hh, cond_true]
/-! ### the document's -/
theorem parts (s : Bool) {e f : Nat} (he : e < 2048) (hf : f < 4503599627370496) :
  (IntKind.wrap IntKind.u64 ((BitVec.toNat ((BitVec.ofInt (64 : Nat) (IntKind.wrap IntKind.u64 ((BitVec.toNat ((BitVec.ofInt (64 : Nat) ((if s = true then 9223372036854775808 else 0 : Nat) : Int)) ||| (BitVec.ofInt (64 : Nat) ((e * 4503599627370496 : Nat) : Int))) : Nat) : Int))) ||| (BitVec.ofInt (64 : Nat) (f : Int))) : Nat) : Int)) = (((if s = true then 9223372036854775808 else 0) + e * 4503599627370496 + f : Nat) : Int) := by
 have h1 : Go.bits .or .u64 ((if s = true then 9223372036854775808 else 0 : Nat) : Int) ((e * 4503599627370496 : Nat) : Int) = (((if s = true then 2048 else 0) + e) * 2 ^ 52 : Nat) := by
  cases s
  ·simp only [Bool.false_eq_true, if_false]
   rw [Go.u64_or_nat 0 (e * 4503599627370496) (by omega) (by omega), Nat.zero_or, Nat.zero_add]
  ·simp only [if_true]
   have := or_sum (a := 1) (b := e * 4503599627370496) (j := 63) (by omega) (by omega)
   have e1 : (1 * 2 ^ 63 : Nat) = 9223372036854775808 := by omega
   rw [e1] at this
   rw [this]
   omega
 have h2 := or_sum (a := (if s = true then 2048 else 0) + e) (b := f) (j := 52) hf (by split <;> omega)
 rw [← h1] at h2
 refine Eq.trans (show _ = _ from h2) ?_
 congr 1
 split <;> omega
def fin (s : Bool) (m : Nat) : Option (Int × Bool) := some (if Fl.exact m = true then ((((if s = true then 9223372036854775808 else 0) + Fl.near m : Nat) : Int), true) else (0, false))
theorem is_eq (n : Nat) : isI n = true ↔ Fl.rung n ≤ Fl.inf ∧ -4890909195324358656 ≤ Fl.key n ∧ Fl.key n < 4890909195324358656 ∧ Fl.V (Fl.rung n) = Fl.T (Fl.rung n) * 2 ^ Fl.Z := by
 unfold isI
 simp only [Bool.and_eq_true, decide_eq_true_eq]
 constructor
 ·rintro ⟨⟨⟨a, b⟩, c⟩, d⟩
  have hk := Fl.rung_key n
  have hx := Fl.T_whole (r := Fl.rung n) (by unfold Fl.inf; omega)
  refine ⟨a, b, c, ?_⟩
  rw [← Fl.V_exact hx, d]
 ·rintro ⟨a, b, c, d⟩
  have hk := Fl.rung_key n
  have hx := Fl.T_whole (r := Fl.rung n) (by unfold Fl.inf; omega)
  refine ⟨⟨⟨a, b⟩, c⟩, ?_⟩
  rw [← Fl.V_inj, Fl.V_exact hx, d]
end Go.Proofs.YtijjlpgcpdapnaaGreatDoor.Aev
