import Derived.Test.YtimadphjdkjgaaaGreatDoorF0
import Derived.Test.YtimadphjdkjgaaaGreatDoorF1
import Derived.Test.YtimadphjdkjgaaaGreatDoorF7
import Derived.Test.YtimadphjdkjgaaaGreatDoorF8
import Derived.Test.YtimadphjdkjgaaaGreatDoorUtfB
import Derived.Test.YtimadphjdkjgaaaGreatDoorBa
import Derived.Test.YtimadphjdkjgaaaGreatDoorFloat

/- Reals' class and key; whether a value may be: the program's and the document's ways. -/
namespace Go.Proofs.YtimadphjdkjgaaaGreatDoor.Aev
open Go
set_option linter.unusedVariables false
set_option linter.unusedSimpArgs false
set_option maxRecDepth 100000
def nan : Nat := 9221120237041090560
def canon (n : Nat) : Nat := if Fl.inf < Fl.rung n then nan else n
theorem canon_0 : canon 0 = 0 := by decide +kernel
theorem canon_eq (n : Nat) (k : Nat) : reals_Canon.f k (n : Int) = some (canon n : Int) := by
 have e : (FloatKind.format FloatKind.f64) = Ieee.double := rfl
 simp only [reals_Canon.f, reals_Canon.c, math_Float64frombits.f, cond_true, cond_false, if_b, decide_eq_true_eq, Bool.and_eq_true, Bool.or_eq_true, beq_iff_eq, bne_iff_ne, ne_eq, Bool.not_eq_true', Bool.not_eq_false', Bool.true_and, Bool.and_true, Bool.false_eq_true, if_false, if_true, true_and, and_true, os, Option.bind_none, ofs, beq_eq_false_iff_ne, decide_eq_false_iff_not, toList_iff, e, Int.toNat_natCast]
 unfold canon nan
 by_cases c : Fl.inf < Fl.rung n
 ·rw [if_pos c, Fl.order_nan_left c, if_pos (by simp)]; rfl
 ·rw [if_neg c, Fl.order_key (by omega) (by omega), Fl.compare_eq rfl, if_neg (by simp)]
def classOf (n : Nat) : Int := if Fl.inf < Fl.rung n then 1 else if Fl.rung n = Fl.inf then 2 else if Fl.rung n = 0 then 3 else if Fl.rung n < 4503599627370496 then 4 else 5
theorem exp_eq {n : Nat} (h : n < 18446744073709551616) (k : Nat) : r02_exponent.f k (n : Int) = some ((Fl.rung n / 4503599627370496 : Nat) : Int) := by
 have e1 : Int.fdiv (n : Int) 4503599627370496 = ((n / 4503599627370496 : Nat) : Int) := by rw [Int.fdiv_eq_ediv_of_nonneg _ (by omega)]; omega
 have e2 : n / 4503599627370496 % 2048 = Fl.rung n / 4503599627370496 := by unfold Fl.rung; omega
 simp only [r02_exponent.f, r02_exponent.c, e1, a11 (n := n / 4503599627370496) (by omega), e2]
 rw [i64w (by unfold Fl.rung; omega) (by unfold Fl.rung; omega)]
theorem frac_eq {n : Nat} (h : n < 18446744073709551616) (k : Nat) : r02_fraction.f k (n : Int) = some ((Fl.rung n % 4503599627370496 : Nat) : Int) := by
 have e2 : n % 4503599627370496 = Fl.rung n % 4503599627370496 := by unfold Fl.rung; omega
 simp only [r02_fraction.f, r02_fraction.c, a52 h, e2]
theorem rung_lt (n : Nat) : Fl.rung n < 9223372036854775808 := by unfold Fl.rung; omega
theorem refclass_eq {n : Nat} (h : n < 18446744073709551616) (k : Nat) : r02_Class.f (k + 1) (n : Int) = some (classOf n) := by
 have hr := rung_lt n
 have hi : Fl.inf = 9218868437227405312 := rfl
 simp only [r02_Class.f, r02_Class.c, r02_Class.s0, r02_Class.s0c, exp_eq h, frac_eq h, cond_true, cond_false, if_b, decide_eq_true_eq, Bool.and_eq_true, Bool.or_eq_true, beq_iff_eq, bne_iff_ne, ne_eq, Bool.not_eq_true', Bool.not_eq_false', Bool.true_and, Bool.and_true, Bool.false_eq_true, if_false, if_true, true_and, and_true, os, Option.bind_none, ofs, beq_eq_false_iff_ne, decide_eq_false_iff_not, toList_iff]
 unfold classOf
 repeat' split
 all_goals first | rfl | (exfalso; omega)
theorem class_nan {n : Nat} : classOf n = 1 ↔ Fl.inf < Fl.rung n := by
 unfold classOf; split
 ·simp_all
 ·split
  ·simp_all
  ·split
   ·simp_all
   ·split <;> simp_all
theorem refcanon_eq {n : Nat} (h : n < 18446744073709551616) (k : Nat) : r02_Canon.f (k + 1) (n : Int) = some (canon n : Int) := by
 simp only [r02_Canon.f, r02_Canon.c, refclass_eq h, cond_true, cond_false, if_b, decide_eq_true_eq, Bool.and_eq_true, Bool.or_eq_true, beq_iff_eq, bne_iff_ne, ne_eq, Bool.not_eq_true', Bool.not_eq_false', Bool.true_and, Bool.and_true, Bool.false_eq_true, if_false, if_true, true_and, and_true, os, Option.bind_none, ofs, beq_eq_false_iff_ne, decide_eq_false_iff_not, toList_iff]
 unfold canon nan
 by_cases c : Fl.inf < Fl.rung n
 ·rw [if_pos (class_nan.2 c), if_pos c]; rfl
 ·rw [if_neg (fun q => c (class_nan.1 q)), if_neg c]
def fieldsOk (a0 a1 : Int) (n : Nat) (s : ByteArray) : Prop := (a1 = 0 ∨ a0 = 1 ∨ a0 = 2) ∧ (n = 0 ∨ a0 = 3) ∧ (s.data.toList = [] ∨ a0 = 4 ∨ a0 = 5)
instance (a0 a1 : Int) (n : Nat) (s : ByteArray) : Decidable (fieldsOk a0 a1 n s) := by unfold fieldsOk; infer_instance
noncomputable def validU (s : List UInt8) : Bool := (Classical.choose_spec (rd_ex s.length s (Nat.le_refl _))).choose
theorem rdc_of (s : List UInt8) : ∃ rs, Rdc s rs (validU s) := ⟨_, (Classical.choose_spec (rd_ex s.length s (Nat.le_refl _))).choose_spec⟩
theorem valid_f (s : ByteArray) (k : Nat) (hz : s.size ≤ 140737488351232) (hk : s.size + 30 ≤ k) : utf_Valid.f k s = some (validU s.data.toList) := by
 obtain ⟨rs, h⟩ := rdc_of s.data.toList
 exact valid_eq h hz hk
theorem refvalid_f (s : ByteArray) (k : Nat) (hz : s.size ≤ 140737488351232) (hk : s.size + 70 ≤ k) : r01_Valid.f k s = some (validU s.data.toList) := by
 obtain ⟨rs, h⟩ := rdc_of s.data.toList
 exact refvalid_eq h hz hk
noncomputable def endS (a0 : Int) (s : ByteArray) : Int := if 64 < s.size then 2 else if a0 = 5 then (if validU s.data.toList = true then 0 else 7) else 0
noncomputable def checkS (a0 a1 : Int) (n : Nat) (s : ByteArray) : Int :=
 if a0 < 0 ∨ 5 < a0 then 5 else if ¬ fieldsOk a0 a1 n s then 4 else if a0 = 1 ∧ a1 ≠ 0 ∧ a1 ≠ 1 then 6 else if canon n ≠ n then 4 else endS a0 s
theorem only_eq (a0 a1 a2 : Int) (s : ByteArray) (k : Nat) : values_only.f (k + 1) a0 a1 a2 s = some (a0, if a0 = 1 ∨ a0 = 2 then a1 else 0, if a0 = 3 then a2 else 0, if a0 = 4 ∨ a0 = 5 then s else (ByteArray.mk (List.toArray []))) := by
 simp only [values_only.f, values_only.c, values_only.s0, values_only.s0c, cond_true, cond_false, if_b, decide_eq_true_eq, Bool.and_eq_true, Bool.or_eq_true, beq_iff_eq, bne_iff_ne, ne_eq, Bool.not_eq_true', Bool.not_eq_false', Bool.true_and, Bool.and_true, Bool.false_eq_true, if_false, if_true, true_and, and_true, os, Option.bind_none, ofs, beq_eq_false_iff_ne, decide_eq_false_iff_not, toList_iff]
 by_cases h1 : a0 = 1
 ·subst h1; rfl
 ·by_cases h2 : a0 = 2
  ·subst h2; rfl
  ·by_cases h3 : a0 = 3
   ·subst h3; rfl
   ·by_cases h4 : a0 = 4
    ·subst h4; rfl
    ·by_cases h5 : a0 = 5
     ·subst h5; rfl
     ·simp only [h1, h2, h3, h4, h5, if_false, or_self]
theorem only_same (a0 a1 : Int) (n : Nat) (s : ByteArray) :
  (!((a0 == a0) && (((if a0 = 1 ∨ a0 = 2 then a1 else 0) == a1) && (((if a0 = 3 then (n : Int) else 0) == (n : Int)) && ((ByteArray.toList (if a0 = 4 ∨ a0 = 5 then s else (ByteArray.mk (List.toArray []))) == ByteArray.toList s) && true))))) = !(decide (fieldsOk a0 a1 n s)) := by
 have e1 : ((if a0 = 1 ∨ a0 = 2 then a1 else 0) == a1) = decide (a1 = 0 ∨ a0 = 1 ∨ a0 = 2) := by
  rw [Bool.eq_iff_iff, beq_iff_eq, decide_eq_true_iff]; split <;> omega
 have e2 : ((if a0 = 3 then (n : Int) else 0) == (n : Int)) = decide (n = 0 ∨ a0 = 3) := by
  rw [Bool.eq_iff_iff, beq_iff_eq, decide_eq_true_iff]; split <;> omega
 have e3 : (ByteArray.toList (if a0 = 4 ∨ a0 = 5 then s else (ByteArray.mk (List.toArray []))) == ByteArray.toList s) = decide (s.data.toList = [] ∨ a0 = 4 ∨ a0 = 5) := by
  rw [Bool.eq_iff_iff, beq_iff_eq, decide_eq_true_iff, toList_iff]
  split
  ·constructor
   ·intro _; exact .inr ‹_›
   ·intro _; rfl
  ·rw [data_nil]
   constructor
   ·intro h; exact .inl h.symm
   ·rintro (h | h)
    ·exact h.symm
    ·exact absurd h ‹_›
 have e4 : decide (fieldsOk a0 a1 n s) = (decide (a1 = 0 ∨ a0 = 1 ∨ a0 = 2) && (decide (n = 0 ∨ a0 = 3) && decide (s.data.toList = [] ∨ a0 = 4 ∨ a0 = 5))) := by
  rw [Bool.eq_iff_iff, decide_eq_true_iff, Bool.and_eq_true, Bool.and_eq_true, decide_eq_true_iff, decide_eq_true_iff, decide_eq_true_iff]; rfl
 rw [e1, e2, e3, e4, beq_self_eq_true, Bool.true_and, Bool.and_true]
theorem vcheck_s1 {a0 a1 : Int} {n : Nat} {s : ByteArray} {k : Nat} (hk : 110 ≤ k) :
  values_Check.s1 k false a0 a1 (n : Int) s = some (if canon n ≠ n then 4 else endS a0 s) := by
 obtain ⟨k, rfl⟩ : ∃ j, k = j + 1 := ⟨k - 1, by omega⟩
 simp only [values_Check.s1, values_Check.s1c, canon_eq, cond_true, cond_false, if_b, decide_eq_true_eq, Bool.and_eq_true, Bool.or_eq_true, beq_iff_eq, bne_iff_ne, ne_eq, Bool.not_eq_true', Bool.not_eq_false', Bool.true_and, Bool.and_true, Bool.false_eq_true, if_false, if_true, true_and, and_true, os, Option.bind_none, ofs, beq_eq_false_iff_ne, decide_eq_false_iff_not, toList_iff]
 unfold endS
 by_cases c : canon n = n
 ·rw [if_neg (by omega), if_neg (show ¬ canon n ≠ n by omega)]
  by_cases d : 64 < s.size
  ·rw [if_pos (by omega), if_pos d]
  ·rw [if_neg (by omega), if_neg d]
   by_cases e : a0 = 5
   ·rw [if_pos e, if_pos e, valid_f s k (by omega) (by omega), os]; cases validU s.data.toList <;> rfl
   ·rw [if_neg e, if_neg e]
 ·rw [if_pos (by omega), if_pos (show canon n ≠ n from c)]
theorem vcheck_eq {a0 a1 : Int} {n : Nat} {s : ByteArray} {k : Nat} (hk : 120 ≤ k) :
  values_Check.f k a0 a1 (n : Int) s = some (checkS a0 a1 n s) := by
 obtain ⟨k, rfl⟩ : ∃ j, k = j + 2 := ⟨k - 2, by omega⟩
 have j0 : ∀ b : Bool, (b = true ↔ a0 < 0 ∨ 5 < a0) → values_Check.s0 (k + 2) b a0 a1 (n : Int) s = some (checkS a0 a1 n s) := by
  intro b hb
  unfold checkS
  cases b
  ·rw [if_neg (by simpa using hb)]
   simp only [values_Check.s0, values_Check.s0c, cond_false, only_eq, os, only_same]
   by_cases e : fieldsOk a0 a1 n s
   ·rw [decide_eq_true e, if_neg (show ¬ ¬ fieldsOk a0 a1 n s from fun q => q e)]
    simp only [cond_true, cond_false, if_b, decide_eq_true_eq, Bool.and_eq_true, Bool.or_eq_true, beq_iff_eq, bne_iff_ne, ne_eq, Bool.not_eq_true', Bool.not_eq_false', Bool.true_and, Bool.and_true, Bool.false_eq_true, if_false, if_true, true_and, and_true, os, Option.bind_none, ofs, beq_eq_false_iff_ne, decide_eq_false_iff_not, toList_iff, Bool.not_true]
    by_cases g : a0 = 1
    ·by_cases h0 : a1 = 0
     ·subst h0; simp only [g, if_true, vcheck_s1 (show 110 ≤ k + 1 by omega), not_true_eq_false, if_false, false_and, and_false]
     ·by_cases h1 : a1 = 1
      ·subst h1
       rw [if_pos g, if_pos (by simp), if_neg (by omega)]
       exact vcheck_s1 (by omega)
      ·rw [if_pos g, if_pos h0, show (a1 != 1) = true by simpa using h1, if_pos ⟨g, h0, h1⟩]
       simp only [values_Check.s1, values_Check.s1c, cond_true]
    ·rw [if_neg g, if_neg (by omega)]
     exact vcheck_s1 (by omega)
   ·rw [decide_eq_false e, if_pos e]; rfl
  ·rw [if_pos (hb.1 rfl)]
   simp only [values_Check.s0, values_Check.s0c, cond_true]
 simp only [values_Check.f, values_Check.c, ofs]
 by_cases c : a0 < 0
 ·rw [decide_eq_true c]; exact j0 true (by simp [c])
 ·rw [decide_eq_false c]; exact j0 _ (by rw [decide_eq_true_iff]; omega)
theorem rcheck_s5 {a0 a1 : Int} {n : Nat} {s : ByteArray} {k : Nat} (hk : 150 ≤ k) :
  r04_Check.s5 k false a0 a1 (n : Int) s = some (endS a0 s) := by
 obtain ⟨k, rfl⟩ : ∃ j, k = j + 1 := ⟨k - 1, by omega⟩
 simp only [r04_Check.s5, r04_Check.s5c, cond_true, cond_false, if_b, decide_eq_true_eq, Bool.and_eq_true, Bool.or_eq_true, beq_iff_eq, bne_iff_ne, ne_eq, Bool.not_eq_true', Bool.not_eq_false', Bool.true_and, Bool.and_true, Bool.false_eq_true, if_false, if_true, true_and, and_true, os, Option.bind_none, ofs, beq_eq_false_iff_ne, decide_eq_false_iff_not, toList_iff]
 unfold endS
 by_cases d : 64 < s.size
 ·rw [if_pos (by omega), if_pos d]
 ·rw [if_neg (by omega), if_neg d]
  by_cases e : a0 = 5
  ·rw [if_pos e, if_pos e, refvalid_f s k (by omega) (by omega), os]; cases validU s.data.toList <;> rfl
  ·rw [if_neg e, if_neg e]
theorem rcheck_s4 {a0 a1 : Int} {n : Nat} {s : ByteArray} {k : Nat} (hn : n < 18446744073709551616) (hk : 152 ≤ k) (hf : n = 0 ∨ a0 = 3) :
  r04_Check.s4 k false a0 a1 (n : Int) s = some (if canon n ≠ n then 4 else endS a0 s) := by
 obtain ⟨k, rfl⟩ : ∃ j, k = j + 2 := ⟨k - 2, by omega⟩
 simp only [r04_Check.s4, r04_Check.s4c, cond_true, cond_false, if_b, decide_eq_true_eq, Bool.and_eq_true, Bool.or_eq_true, beq_iff_eq, bne_iff_ne, ne_eq, Bool.not_eq_true', Bool.not_eq_false', Bool.true_and, Bool.and_true, Bool.false_eq_true, if_false, if_true, true_and, and_true, os, Option.bind_none, ofs, beq_eq_false_iff_ne, decide_eq_false_iff_not, toList_iff]
 by_cases c : a0 = 3
 ·rw [if_pos c, refcanon_eq hn, os]
  by_cases d : canon n = n
  ·rw [bne_eq_false_iff_eq.2 (by omega), rcheck_s5 (by omega), if_neg (show ¬ canon n ≠ n by omega)]
  ·rw [bne_iff_ne.2 (by omega), if_pos (show canon n ≠ n from d)]; rfl
 ·rw [if_neg c, rcheck_s5 (by omega)]
  obtain rfl : n = 0 := by omega
  rw [if_neg (show ¬ canon 0 ≠ 0 by rw [canon_0]; omega)]
theorem rcheck_s3 {a0 a1 : Int} {n : Nat} {s : ByteArray} {k : Nat} (hn : n < 18446744073709551616) (hk : 154 ≤ k) (f : Bool) (hf : fieldsOk a0 a1 n s ↔ f = false) :
  r04_Check.s3 k f a0 a1 (n : Int) s = some (if ¬ fieldsOk a0 a1 n s then 4 else if a0 = 1 ∧ a1 ≠ 0 ∧ a1 ≠ 1 then 6 else if canon n ≠ n then 4 else endS a0 s) := by
 obtain ⟨k, rfl⟩ : ∃ j, k = j + 2 := ⟨k - 2, by omega⟩
 simp only [r04_Check.s3, r04_Check.s3c]
 cases f
 ·have hg := hf.2 rfl
  rw [if_neg (show ¬ ¬ fieldsOk a0 a1 n s from fun q => q hg)]
  simp only [cond_true, cond_false, if_b, decide_eq_true_eq, Bool.and_eq_true, Bool.or_eq_true, beq_iff_eq, bne_iff_ne, ne_eq, Bool.not_eq_true', Bool.not_eq_false', Bool.true_and, Bool.and_true, Bool.false_eq_true, if_false, if_true, true_and, and_true, os, Option.bind_none, ofs, beq_eq_false_iff_ne, decide_eq_false_iff_not, toList_iff]
  by_cases g : a0 = 1
  ·by_cases h0 : a1 = 0
   ·rw [if_pos g, if_neg (by simpa using h0), rcheck_s4 hn (by omega) hg.2.1, if_neg (show ¬ (a0 = 1 ∧ a1 ≠ 0 ∧ a1 ≠ 1) by omega)]
   ·rw [if_pos g, if_pos h0]
    by_cases h1 : a1 = 1
    ·rw [bne_eq_false_iff_eq.2 h1, rcheck_s4 hn (by omega) hg.2.1, if_neg (show ¬ (a0 = 1 ∧ a1 ≠ 0 ∧ a1 ≠ 1) by omega)]
    ·rw [bne_iff_ne.2 h1, if_pos (show (a0 = 1 ∧ a1 ≠ 0 ∧ a1 ≠ 1) by omega)]; rfl
  ·rw [if_neg g, rcheck_s4 hn (by omega) hg.2.1, if_neg (show ¬ (a0 = 1 ∧ a1 ≠ 0 ∧ a1 ≠ 1) by omega)]
 ·have hg : ¬ fieldsOk a0 a1 n s := fun q => by simpa using hf.1 q
  rw [if_pos hg]; rfl
theorem rcheck_eq {a0 a1 : Int} {n : Nat} {s : ByteArray} {k : Nat} (hn : n < 18446744073709551616) (hk : 170 ≤ k) :
  r04_Check.f k a0 a1 (n : Int) s = some (checkS a0 a1 n s) := by
 obtain ⟨k, rfl⟩ : ∃ j, k = j + 4 := ⟨k - 4, by omega⟩
 have J := fun f hf => rcheck_s3 (a0 := a0) (a1 := a1) (s := s) hn (show 154 ≤ k + 1 by omega) f hf
 have j2 : ∀ (x y b : Bool), (x = true ↔ a0 = 1 ∨ a0 = 2) → (y = true ↔ a0 = 4 ∨ a0 = 5) → (b = true ↔ a0 < 0 ∨ 5 < a0) → r04_Check.s2 (k + 2) x y b a0 a1 (n : Int) s = some (checkS a0 a1 n s) := by
  intro x y b hx hy hb
  unfold checkS
  cases b
  ·rw [if_neg (by simpa using hb)]
   simp only [r04_Check.s2, r04_Check.s2c, cond_true, cond_false, if_b, decide_eq_true_eq, Bool.and_eq_true, Bool.or_eq_true, beq_iff_eq, bne_iff_ne, ne_eq, Bool.not_eq_true', Bool.not_eq_false', Bool.true_and, Bool.and_true, Bool.false_eq_true, if_false, if_true, true_and, and_true, os, Option.bind_none, ofs, beq_eq_false_iff_ne, decide_eq_false_iff_not, toList_iff]
   have good : ∀ f : Bool, (fieldsOk a0 a1 n s ↔ f = false) → r04_Check.s3 (k + 1) f a0 a1 (n : Int) s = _ := J
   have hs : (¬ s = ByteArray.mk (List.toArray [])) ↔ ¬ s.data.toList = [] := by rw [data_nil]
   have hfo : fieldsOk a0 a1 n s ↔ (a1 = 0 ∨ x = true) ∧ (n = 0 ∨ a0 = 3) ∧ (s.data.toList = [] ∨ y = true) := by unfold fieldsOk; rw [hx, hy]
   by_cases c1 : a1 = 0
   ·by_cases c2 : n = 0
    ·by_cases c3 : s.data.toList = []
     ·rw [if_neg (by simpa using c1), if_neg (by omega), if_neg (by rw [hs]; simpa using c3), good false (by rw [hfo]; simp [c1, c2, c3])]
     ·rw [if_neg (by simpa using c1), if_neg (by omega), if_pos (by rw [hs]; exact c3), good (!y) (by rw [hfo]; simp [c1, c2, c3])]
    ·rw [if_neg (by simpa using c1), if_pos (by omega)]
     by_cases c4 : a0 = 3
     ·by_cases c3 : s.data.toList = []
      ·rw [if_neg (by simpa using c4), if_neg (by rw [hs]; simpa using c3), good false (by rw [hfo]; simp [c1, c4, c3])]
      ·rw [if_neg (by simpa using c4), if_pos (by rw [hs]; exact c3), good (!y) (by rw [hfo]; simp [c1, c4, c3])]
     ·rw [if_pos c4, good true (by rw [hfo]; simp [c2, c4])]
   ·rw [if_pos c1]
    cases x
    ·rw [if_pos rfl, good true (by rw [hfo]; simp [c1])]
    ·rw [if_neg (by simp)]
     by_cases c2 : n = 0
     ·by_cases c3 : s.data.toList = []
      ·rw [if_neg (by omega), if_neg (by rw [hs]; simpa using c3), good false (by rw [hfo]; simp [c2, c3])]
      ·rw [if_neg (by omega), if_pos (by rw [hs]; exact c3), good (!y) (by rw [hfo]; simp [c2, c3])]
     ·rw [if_pos (by omega)]
      by_cases c4 : a0 = 3
      ·by_cases c3 : s.data.toList = []
       ·rw [if_neg (by simpa using c4), if_neg (by rw [hs]; simpa using c3), good false (by rw [hfo]; simp [c4, c3])]
       ·rw [if_neg (by simpa using c4), if_pos (by rw [hs]; exact c3), good (!y) (by rw [hfo]; simp [c4, c3])]
      ·rw [if_pos c4, good true (by rw [hfo]; simp [c2, c4])]
  ·rw [if_pos (hb.1 rfl)]; rfl
 have j1 : ∀ x y : Bool, (x = true ↔ a0 = 1 ∨ a0 = 2) → (y = true ↔ a0 = 4 ∨ a0 = 5) → r04_Check.s1 (k + 3) x y a0 a1 (n : Int) s = some (checkS a0 a1 n s) := by
  intro x y hx hy
  simp only [r04_Check.s1, r04_Check.s1c, ofs]
  by_cases c : a0 < 0
  ·rw [decide_eq_true c]; exact j2 x y true hx hy (by simp [c])
  ·rw [decide_eq_false c]; exact j2 x y _ hx hy (by rw [decide_eq_true_iff]; omega)
 have j0 : ∀ x : Bool, (x = true ↔ a0 = 1 ∨ a0 = 2) → r04_Check.s0 (k + 4) x a0 a1 (n : Int) s = some (checkS a0 a1 n s) := by
  intro x hx
  simp only [r04_Check.s0, r04_Check.s0c, ofs]
  by_cases c : a0 = 4
  ·rw [show (a0 == 4) = true by simpa using c]; exact j1 x true hx (by simp [c])
  ·rw [show (a0 == 4) = false by simpa using c]; exact j1 x _ hx (by rw [beq_iff_eq]; omega)
 simp only [r04_Check.f, r04_Check.c, ofs]
 by_cases c : a0 = 1
 ·rw [show (a0 == 1) = true by simpa using c]; exact j0 true (by simp [c])
 ·rw [show (a0 == 1) = false by simpa using c]; exact j0 _ (by rw [beq_iff_eq]; omega)
theorem check_0 {a0 a1 : Int} {n : Nat} {s : ByteArray} : checkS a0 a1 n s = 0 ↔ (0 ≤ a0 ∧ a0 ≤ 5) ∧ fieldsOk a0 a1 n s ∧ (a0 = 1 → a1 = 0 ∨ a1 = 1) ∧ canon n = n ∧ s.size ≤ 64 ∧ (a0 = 5 → validU s.data.toList = true) := by
 unfold checkS endS
 by_cases c0 : a0 < 0 ∨ 5 < a0
 ·rw [if_pos c0]; constructor
  ·intro h; omega
  ·intro h; omega
 ·rw [if_neg c0]
  by_cases c1 : fieldsOk a0 a1 n s
  ·rw [if_neg (fun q => q c1)]
   by_cases c2 : a0 = 1 ∧ a1 ≠ 0 ∧ a1 ≠ 1
   ·rw [if_pos c2]; constructor
    ·intro h; omega
    ·rintro ⟨_, _, h, _⟩; omega
   ·rw [if_neg c2]
    by_cases c3 : canon n = n
    ·rw [if_neg (fun q => q c3)]
     by_cases c4 : 64 < s.size
     ·rw [if_pos c4]; constructor
      ·intro h; omega
      ·rintro ⟨_, _, _, _, h, _⟩; omega
     ·rw [if_neg c4]
      by_cases c5 : a0 = 5
      ·rw [if_pos c5]
       by_cases c6 : validU s.data.toList = true
       ·rw [if_pos c6]; exact ⟨fun _ => ⟨by omega, c1, by omega, c3, by omega, fun _ => c6⟩, fun _ => rfl⟩
       ·rw [if_neg c6]; exact ⟨fun h => by omega, fun h => absurd (h.2.2.2.2.2 c5) c6⟩
      ·rw [if_neg c5]; exact ⟨fun _ => ⟨by omega, c1, by omega, c3, by omega, fun h => absurd h c5⟩, fun _ => rfl⟩
    ·rw [if_pos c3]; exact ⟨fun h => by omega, fun h => absurd h.2.2.2.1 c3⟩
  ·rw [if_pos c1]; exact ⟨fun h => by omega, fun h => absurd h.2.1 c1⟩
end Go.Proofs.YtimadphjdkjgaaaGreatDoor.Aev
