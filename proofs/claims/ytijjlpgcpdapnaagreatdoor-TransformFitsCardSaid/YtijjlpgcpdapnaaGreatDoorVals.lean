import Derived.Test.YtijjlpgcpdapnaaGreatDoorF1
import Derived.Test.YtijjlpgcpdapnaaGreatDoorUtfB
import Derived.Test.YtijjlpgcpdapnaaGreatDoorBits
import Derived.Test.YtijjlpgcpdapnaaGreatDoorFloat

/- Reals' class and key; whether a value may be: the program's and the document's ways. -/
namespace Go.Proofs.YtijjlpgcpdapnaaGreatDoor.Aev
open Go
set_option linter.unusedVariables false
set_option linter.unusedSimpArgs false
set_option maxRecDepth 100000
def nan : Nat := 9221120237041090560
def canon (n : Nat) : Nat := if Fl.inf < Fl.rung n then nan else n
theorem canon_lt {n : Nat} (h : n < 18446744073709551616) : canon n < 18446744073709551616 := by unfold canon nan; split <;> omega
theorem canon_0 : canon 0 = 0 := by decide +kernel
theorem canon_eq (n : Nat) (k : Nat) : reals_Canon.f k (n : Int) = some (canon n : Int) := by
 have e : (FloatKind.format FloatKind.f64) = Ieee.double := rfl
 simp only [reals_Canon.f, reals_Canon.c, math_Float64frombits.f, cond_true, cond_false, if_b, decide_eq_true_eq, Bool.and_eq_true, Bool.or_eq_true, beq_iff_eq, bne_iff_ne, ne_eq, Bool.not_eq_true', Bool.not_eq_false', Bool.true_and, Bool.and_true, Bool.false_eq_true, if_false, if_true, true_and, and_true, os, Option.bind_none, ofs, beq_eq_false_iff_ne, decide_eq_false_iff_not, toList_iff, e, Int.toNat_natCast]
 unfold canon nan
 by_cases c : Fl.inf < Fl.rung n
 ·rw [if_pos c, Fl.order_nan_left c, if_pos (by simp)]; rfl
 ·rw [if_neg c, Fl.order_key (by omega) (by omega), Fl.compare_eq rfl, if_neg (by simp)]
def fieldsOk (a0 a1 : Int) (n : Nat) (s : ByteArray) : Prop := (a1 = 0 ∨ a0 = 1 ∨ a0 = 2) ∧ (n = 0 ∨ a0 = 3) ∧ (s.data.toList = [] ∨ a0 = 4 ∨ a0 = 5)
instance (a0 a1 : Int) (n : Nat) (s : ByteArray) : Decidable (fieldsOk a0 a1 n s) := by unfold fieldsOk; infer_instance
noncomputable def validU (s : List UInt8) : Bool := (Classical.choose_spec (rd_ex s.length s (Nat.le_refl _))).choose
theorem rdc_of (s : List UInt8) : ∃ rs, Rdc s rs (validU s) := ⟨_, (Classical.choose_spec (rd_ex s.length s (Nat.le_refl _))).choose_spec⟩
theorem valid_f (s : ByteArray) (k : Nat) (hz : s.size ≤ 140737488351232) (hk : s.size + 30 ≤ k) : utf_Valid.f k s = some (validU s.data.toList) := by
 obtain ⟨rs, h⟩ := rdc_of s.data.toList
 exact valid_eq h hz hk
noncomputable def endS (a0 : Int) (s : ByteArray) : Int := if 64 < s.size then 2 else if a0 = 5 then (if validU s.data.toList = true then 0 else 7) else 0
noncomputable def checkS (a0 a1 : Int) (n : Nat) (s : ByteArray) : Int :=
 if a0 < 0 ∨ 5 < a0 then 5 else if ¬ fieldsOk a0 a1 n s then 4 else if a0 = 1 ∧ a1 ≠ 0 ∧ a1 ≠ 1 then 6 else if canon n ≠ n then 4 else endS a0 s
theorem only_eq (a0 a1 a2 : Int) (s : ByteArray) (k : Nat) : values_only.f (k + 1) a0 a1 a2 s = some (a0, if a0 = 1 ∨ a0 = 2 then a1 else 0, if a0 = 3 then a2 else 0, if a0 = 4 ∨ a0 = 5 then s else (ByteArray.mk (List.toArray []))) := by
 simp only [values_only.f, values_only.c, values_only.s0, values_only.s0c, cond_true, cond_false, if_b, decide_eq_true_eq, Bool.and_eq_true, Bool.or_eq_true, beq_iff_eq, bne_iff_ne, ne_eq, Bool.not_eq_true', Bool.not_eq_false', Bool.true_and, Bool.and_true, Bool.false_eq_true, if_false, if_true, true_and, and_true, os, Option.bind_none, ofs, beq_eq_false_iff_ne, decide_eq_false_iff_not, toList_iff]
 by_cases h1 : a0 = 1
 ·subst h1; rfl
 ·by_cases h2 : a0 = 2
  ·subst h2; rfl
  ·by_cases h3 : a0 = 3
   ·subst h3; rfl
   ·by_cases h4 : a0 = 4
    ·subst h4; rfl
    ·by_cases h5 : a0 = 5
     ·subst h5; rfl
     ·simp only [h1, h2, h3, h4, h5, if_false, or_self]
theorem only_same (a0 a1 : Int) (n : Nat) (s : ByteArray) :
  (!((a0 == a0) && (((if a0 = 1 ∨ a0 = 2 then a1 else 0) == a1) && (((if a0 = 3 then (n : Int) else 0) == (n : Int)) && ((ByteArray.toList (if a0 = 4 ∨ a0 = 5 then s else (ByteArray.mk (List.toArray []))) == ByteArray.toList s) && true))))) = !(decide (fieldsOk a0 a1 n s)) := by
 have e1 : ((if a0 = 1 ∨ a0 = 2 then a1 else 0) == a1) = decide (a1 = 0 ∨ a0 = 1 ∨ a0 = 2) := by
  rw [Bool.eq_iff_iff, beq_iff_eq, decide_eq_true_iff]; split <;> omega
 have e2 : ((if a0 = 3 then (n : Int) else 0) == (n : Int)) = decide (n = 0 ∨ a0 = 3) := by
  rw [Bool.eq_iff_iff, beq_iff_eq, decide_eq_true_iff]; split <;> omega
 have e3 : (ByteArray.toList (if a0 = 4 ∨ a0 = 5 then s else (ByteArray.mk (List.toArray []))) == ByteArray.toList s) = decide (s.data.toList = [] ∨ a0 = 4 ∨ a0 = 5) := by
  rw [Bool.eq_iff_iff, beq_iff_eq, decide_eq_true_iff, toList_iff]
  split
  ·constructor
   ·intro _; exact .inr ‹_›
   ·intro _; rfl
  ·rw [data_nil]
   constructor
   ·intro h; exact .inl h.symm
   ·rintro (h | h)
    ·exact h.symm
    ·exact absurd h ‹_›
 have e4 : decide (fieldsOk a0 a1 n s) = (decide (a1 = 0 ∨ a0 = 1 ∨ a0 = 2) && (decide (n = 0 ∨ a0 = 3) && decide (s.data.toList = [] ∨ a0 = 4 ∨ a0 = 5))) := by
  rw [Bool.eq_iff_iff, decide_eq_true_iff, Bool.and_eq_true, Bool.and_eq_true, decide_eq_true_iff, decide_eq_true_iff, decide_eq_true_iff]; rfl
 rw [e1, e2, e3, e4, beq_self_eq_true, Bool.true_and, Bool.and_true]
theorem vcheck_s1 {a0 a1 : Int} {n : Nat} {s : ByteArray} {k : Nat} (hk : 110 ≤ k) :
  values_Check.s1 k false a0 a1 (n : Int) s = some (if canon n ≠ n then 4 else endS a0 s) := by
 obtain ⟨k, rfl⟩ : ∃ j, k = j + 1 := ⟨k - 1, by omega⟩
 simp only [values_Check.s1, values_Check.s1c, canon_eq, cond_true, cond_false, if_b, decide_eq_true_eq, Bool.and_eq_true, Bool.or_eq_true, beq_iff_eq, bne_iff_ne, ne_eq, Bool.not_eq_true', Bool.not_eq_false', Bool.true_and, Bool.and_true, Bool.false_eq_true, if_false, if_true, true_and, and_true, os, Option.bind_none, ofs, beq_eq_false_iff_ne, decide_eq_false_iff_not, toList_iff]
 unfold endS
 by_cases c : canon n = n
 ·rw [if_neg (by omega), if_neg (show ¬ canon n ≠ n by omega)]
  by_cases d : 64 < s.size
  ·rw [if_pos (by omega), if_pos d]
  ·rw [if_neg (by omega), if_neg d]
   by_cases e : a0 = 5
   ·rw [if_pos e, if_pos e, valid_f s k (by omega) (by omega), os]; cases validU s.data.toList <;> rfl
   ·rw [if_neg e, if_neg e]
 ·rw [if_pos (by omega), if_pos (show canon n ≠ n from c)]
theorem vcheck_eq {a0 a1 : Int} {n : Nat} {s : ByteArray} {k : Nat} (hk : 120 ≤ k) :
  values_Check.f k a0 a1 (n : Int) s = some (checkS a0 a1 n s) := by
 obtain ⟨k, rfl⟩ : ∃ j, k = j + 2 := ⟨k - 2, by omega⟩
 have j0 : ∀ b : Bool, (b = true ↔ a0 < 0 ∨ 5 < a0) → values_Check.s0 (k + 2) b a0 a1 (n : Int) s = some (checkS a0 a1 n s) := by
  intro b hb
  unfold checkS
  cases b
  ·rw [if_neg (by simpa using hb)]
   simp only [values_Check.s0, values_Check.s0c, cond_false, only_eq, os, only_same]
   by_cases e : fieldsOk a0 a1 n s
   ·rw [decide_eq_true e, if_neg (show ¬ ¬ fieldsOk a0 a1 n s from fun q => q e)]
    simp only [cond_true, cond_false, if_b, decide_eq_true_eq, Bool.and_eq_true, Bool.or_eq_true, beq_iff_eq, bne_iff_ne, ne_eq, Bool.not_eq_true', Bool.not_eq_false', Bool.true_and, Bool.and_true, Bool.false_eq_true, if_false, if_true, true_and, and_true, os, Option.bind_none, ofs, beq_eq_false_iff_ne, decide_eq_false_iff_not, toList_iff, Bool.not_true]
    by_cases g : a0 = 1
    ·by_cases h0 : a1 = 0
     ·subst h0; simp only [g, if_true, vcheck_s1 (show 110 ≤ k + 1 by omega), not_true_eq_false, if_false, false_and, and_false]
     ·by_cases h1 : a1 = 1
      ·subst h1
       rw [if_pos g, if_pos (by simp), if_neg (by omega)]
       exact vcheck_s1 (by omega)
      ·rw [if_pos g, if_pos h0, show (a1 != 1) = true by simpa using h1, if_pos ⟨g, h0, h1⟩]
       simp only [values_Check.s1, values_Check.s1c, cond_true]
    ·rw [if_neg g, if_neg (by omega)]
     exact vcheck_s1 (by omega)
   ·rw [decide_eq_false e, if_pos e]; rfl
  ·rw [if_pos (hb.1 rfl)]
   simp only [values_Check.s0, values_Check.s0c, cond_true]
 simp only [values_Check.f, values_Check.c, ofs]
 by_cases c : a0 < 0
 ·rw [decide_eq_true c]; exact j0 true (by simp [c])
 ·rw [decide_eq_false c]; exact j0 _ (by rw [decide_eq_true_iff]; omega)
theorem check_0 {a0 a1 : Int} {n : Nat} {s : ByteArray} : checkS a0 a1 n s = 0 ↔ (0 ≤ a0 ∧ a0 ≤ 5) ∧ fieldsOk a0 a1 n s ∧ (a0 = 1 → a1 = 0 ∨ a1 = 1) ∧ canon n = n ∧ s.size ≤ 64 ∧ (a0 = 5 → validU s.data.toList = true) := by
 unfold checkS endS
 by_cases c0 : a0 < 0 ∨ 5 < a0
 ·rw [if_pos c0]; constructor
  ·intro h; omega
  ·intro h; omega
 ·rw [if_neg c0]
  by_cases c1 : fieldsOk a0 a1 n s
  ·rw [if_neg (fun q => q c1)]
   by_cases c2 : a0 = 1 ∧ a1 ≠ 0 ∧ a1 ≠ 1
   ·rw [if_pos c2]; constructor
    ·intro h; omega
    ·rintro ⟨_, _, h, _⟩; omega
   ·rw [if_neg c2]
    by_cases c3 : canon n = n
    ·rw [if_neg (fun q => q c3)]
     by_cases c4 : 64 < s.size
     ·rw [if_pos c4]; constructor
      ·intro h; omega
      ·rintro ⟨_, _, _, _, h, _⟩; omega
     ·rw [if_neg c4]
      by_cases c5 : a0 = 5
      ·rw [if_pos c5]
       by_cases c6 : validU s.data.toList = true
       ·rw [if_pos c6]; exact ⟨fun _ => ⟨by omega, c1, by omega, c3, by omega, fun _ => c6⟩, fun _ => rfl⟩
       ·rw [if_neg c6]; exact ⟨fun h => by omega, fun h => absurd (h.2.2.2.2.2 c5) c6⟩
      ·rw [if_neg c5]; exact ⟨fun _ => ⟨by omega, c1, by omega, c3, by omega, fun h => absurd h c5⟩, fun _ => rfl⟩
    ·rw [if_pos c3]; exact ⟨fun h => by omega, fun h => absurd h.2.2.2.1 c3⟩
  ·rw [if_pos c1]; exact ⟨fun h => by omega, fun h => absurd h.2.1 c1⟩
end Go.Proofs.YtijjlpgcpdapnaaGreatDoor.Aev
