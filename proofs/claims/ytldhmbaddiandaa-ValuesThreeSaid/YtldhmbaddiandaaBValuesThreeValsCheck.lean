/- Whether a value may be, or why not: package values as a plain function. -/
import Derived.Test.YtldhmbaddiandaaBValuesThreeValsKey
import Derived.Test.YtldhmbaddiandaaBValuesThreeValsCount
namespace Go.Proofs.Ytldhmbaddiandaa.PValuesThree
set_option linter.unusedVariables false
set_option linter.unusedSimpArgs false
open Go.RowKit Go.Proofs.YtldhmbaddiandaaW.PrintWords Go.Proofs.YtldhmbaddiandaaW.PrintLast Go.Proofs.YtldhmbaddiandaaW.PrintMore
open Go.Proofs.Ytldhmbaddiandaa.Plain

def fieldsOk (a0 a1 : Int) (n : Nat) (s : ByteArray) : Prop := (a1 = 0 ∨ a0 = 1 ∨ a0 = 2) ∧ (n = 0 ∨ a0 = 3) ∧ (s.data.toList = [] ∨ a0 = 4 ∨ a0 = 5)
instance (a0 a1 : Int) (n : Nat) (s : ByteArray) : Decidable (fieldsOk a0 a1 n s) := by unfold fieldsOk; infer_instance
def endS (a0 : Int) (s : ByteArray) (b : Bool) : Int := if 64 < s.size then 2 else if a0 = 5 then (if b = true then 0 else 7) else 0
def checkS (a0 a1 : Int) (n : Nat) (s : ByteArray) (b : Bool) : Int :=
  if a0 < 0 ∨ 5 < a0 then 5 else if ¬ fieldsOk a0 a1 n s then 4 else if a0 = 1 ∧ a1 ≠ 0 ∧ a1 ≠ 1 then 6 else if canon n ≠ n then 4 else endS a0 s b
theorem only_eq (a0 a1 a2 : Int) (s : ByteArray) (k : Nat) : values_only.f (k + 1) a0 a1 a2 s = some (a0, if a0 = 1 ∨ a0 = 2 then a1 else 0, if a0 = 3 then a2 else 0, if a0 = 4 ∨ a0 = 5 then s else (⟨#[]⟩ : ByteArray)) := by
  unfold values_only.f
  by_cases h1 : a0 = 1
  · subst h1; rfl
  · rw [if_neg h1]
    by_cases h2 : a0 = 2
    · subst h2; rfl
    · rw [values_only.j0, beq_eq_false_iff_ne.2 h2, if_neg Bool.false_ne_true, if_neg (show ¬ (a0 = 1 ∨ a0 = 2) by omega)]
      by_cases h3 : a0 = 3
      · rw [if_pos h3, if_pos h3, if_neg (show ¬ (a0 = 4 ∨ a0 = 5) by omega)]
      · rw [if_neg h3, if_neg h3]
        by_cases h4 : a0 = 4
        · rw [if_pos h4, if_pos (.inl h4)]
        · rw [if_neg h4]
          by_cases h5 : a0 = 5
          · rw [if_pos h5, if_pos (.inr h5)]
          · rw [if_neg h5, if_neg (show ¬ (a0 = 4 ∨ a0 = 5) by omega)]
theorem only_same (a0 a1 : Int) (n : Nat) (s : ByteArray) :
    (!(a0 == a0) || (!((if a0 = 1 ∨ a0 = 2 then a1 else 0) == a1) || (!((if a0 = 3 then (n : Int) else 0) == (n : Int)) || (!((if a0 = 4 ∨ a0 = 5 then s else (⟨#[]⟩ : ByteArray)).toList == s.toList))))) = !(decide (fieldsOk a0 a1 n s)) := by
  have e1 : ((if a0 = 1 ∨ a0 = 2 then a1 else 0) == a1) = decide (a1 = 0 ∨ a0 = 1 ∨ a0 = 2) := by
    rw [Bool.eq_iff_iff, beq_iff_eq, decide_eq_true_iff]; split <;> omega
  have e2 : ((if a0 = 3 then (n : Int) else 0) == (n : Int)) = decide (n = 0 ∨ a0 = 3) := by
    rw [Bool.eq_iff_iff, beq_iff_eq, decide_eq_true_iff]; split <;> omega
  have e3 : ((if a0 = 4 ∨ a0 = 5 then s else (⟨#[]⟩ : ByteArray)).toList == s.toList) = decide (s.data.toList = [] ∨ a0 = 4 ∨ a0 = 5) := by
    rw [Bool.eq_iff_iff, beq_iff_eq, decide_eq_true_iff]
    split
    · constructor
      · intro _; exact .inr ‹_›
      · intro _; rfl
    · rw [toList_data, toList_data]
      constructor
      · intro h; exact .inl h.symm
      · rintro (h | h)
        · exact h.symm
        · exact absurd h ‹_›
  rw [e1, e2, e3, beq_self_eq_true]
  unfold fieldsOk
  by_cases c1 : a1 = 0 ∨ a0 = 1 ∨ a0 = 2 <;> by_cases c2 : n = 0 ∨ a0 = 3 <;> by_cases c3 : s.data.toList = [] ∨ a0 = 4 ∨ a0 = 5 <;> simp only [c1, c2, c3, decide_true, decide_false, and_true, and_false, Bool.not_true, Bool.not_false, Bool.or_false, Bool.or_true, Bool.false_or, Bool.true_or]
theorem vcheck_j1 {a0 a1 : Int} {n : Nat} {s : ByteArray} {rs : List Int} {b : Bool} {k : Nat} (hr : Rd s.data.toList rs b) (hk : 90 ≤ k) :
    values_Check.j1 k false a0 a1 (n : Int) s = some (if canon n ≠ n then 4 else endS a0 s b) := by
  obtain ⟨k, rfl⟩ : ∃ j, k = j + 1 := ⟨k - 1, by omega⟩
  rw [values_Check.j1, if_neg Bool.false_ne_true, canon_eq, Option.bind_some]
  unfold endS
  by_cases c : canon n = n
  · rw [if_pos (by omega), if_neg (show ¬ canon n ≠ n by omega)]
    by_cases d : 64 < s.size
    · rw [if_pos (by omega), if_pos d]
    · rw [if_neg (by omega), if_neg d]
      by_cases e : a0 = 5
      · rw [if_pos e, if_pos e, valid_eq hr (by omega) (by omega), Option.bind_some]; split <;> rfl
      · rw [if_neg e, if_neg e]
  · rw [if_neg (by omega), if_pos (show canon n ≠ n from c)]
theorem vcheck_eq {a0 a1 : Int} {n : Nat} {s : ByteArray} {rs : List Int} {b : Bool} {k : Nat} (hr : Rd s.data.toList rs b) (hk : 100 ≤ k) :
    values_Check.f k a0 a1 (n : Int) s = some (checkS a0 a1 n s b) := by
  obtain ⟨k, rfl⟩ : ∃ j, k = j + 2 := ⟨k - 2, by omega⟩
  unfold values_Check.f checkS
  by_cases c : a0 < 0
  · rw [if_pos c, if_pos (.inl c), values_Check.j0, if_pos rfl]
  · rw [if_neg c]
    by_cases d : 5 < a0
    · rw [if_pos (.inr d), decide_eq_true (show a0 ≥ 6 by omega), values_Check.j0, if_pos rfl]
    · rw [if_neg (show ¬ (a0 < 0 ∨ 5 < a0) by omega), decide_eq_false (show ¬ a0 ≥ 6 by omega), values_Check.j0, if_neg Bool.false_ne_true, only_eq, Option.bind_some]
      dsimp only
      rw [only_same]
      by_cases e : fieldsOk a0 a1 n s
      · rw [decide_eq_true e, if_neg (show ¬ (!true) = true by simp), if_neg (show ¬ ¬ fieldsOk a0 a1 n s from fun q => q e), vcheck_j1 hr (by omega)]
        by_cases g : a0 = 1
        · rw [if_pos g]
          by_cases h0 : a1 = 0
          · rw [if_pos h0, if_neg (show ¬ (a0 = 1 ∧ a1 ≠ 0 ∧ a1 ≠ 1) by omega)]
          · rw [if_neg h0]
            by_cases h1 : a1 = 1
            · rw [bne_eq_false_iff_eq.2 h1, vcheck_j1 hr (by omega), if_neg (show ¬ (a0 = 1 ∧ a1 ≠ 0 ∧ a1 ≠ 1) by omega)]
            · rw [bne_iff_ne.2 h1, values_Check.j1, if_pos rfl, if_pos (show (a0 = 1 ∧ a1 ≠ 0 ∧ a1 ≠ 1) by omega)]
        · rw [if_neg g, if_neg (show ¬ (a0 = 1 ∧ a1 ≠ 0 ∧ a1 ≠ 1) by omega)]
      · rw [decide_eq_false e, if_pos (show (!false) = true by rfl), if_pos (show ¬ fieldsOk a0 a1 n s from e)]
end Go.Proofs.Ytldhmbaddiandaa.PValuesThree
