/- Which of two values comes first: package values as a plain function. -/
import Derived.Test.YtldhmbaddiandaaBValuesThreeValsKey
namespace Go.Proofs.Ytldhmbaddiandaa.PValuesThree
set_option linter.unusedVariables false
set_option linter.unusedSimpArgs false
open Go.RowKit Go.Proofs.YtldhmbaddiandaaW.PrintWords Go.Proofs.YtldhmbaddiandaaW.PrintLast Go.Proofs.YtldhmbaddiandaaW.PrintMore
open Go.Proofs.Ytldhmbaddiandaa.Plain

def cmpI (a b : Int) : Int := if a < b then -1 else if a > b then 1 else 0
theorem cmpint_eq (a b : Int) : cmp_Compare_int.f a b = some (cmpI a b) := by
  unfold cmp_Compare_int.f cmp_isNaN_int.f cmpI
  rw [Option.bind_some, Option.bind_some, bne_self_eq_false, bne_self_eq_false, if_neg Bool.false_ne_true, if_neg Bool.false_ne_true]
  split
  · rfl
  · split <;> rfl
def orS (p q r s : Int) : Int := if p ≠ 0 then p else if q ≠ 0 then q else if r ≠ 0 then r else s
theorem or_step (x : Int) (l : List Int) (i k : Nat) (hi : i < l.length) (hl : l.length ≤ 4) (e : l.getD i 0 = x) : cmp_Or_int.l0 (k + 1) 0 l (l.length : Int) (i : Int) = if x = 0 then cmp_Or_int.l0 k 0 l (l.length : Int) ((i + 1 : Nat) : Int) else some x := by
  have e1 : rd l (i : Int) = x := by rw [← e]; simp [rd]
  have e2 : wrap64 ((i : Int) + 1) = ((i + 1 : Nat) : Int) := by rw [w64id (by omega) (by omega)]; omega
  rw [cmp_Or_int.l0, if_pos (by omega), if_pos (by omega), if_pos (by omega), e1, e2]
theorem or_eq (p q r s : Int) (k : Nat) : cmp_Or_int.f (k + 5) ([p, q, r, s] : List Int) = some (orS p q r s) := by
  unfold cmp_Or_int.f orS
  have h0 := or_step p [p, q, r, s] 0 (k + 4) (by simp) (by simp) rfl
  have h1 := or_step q [p, q, r, s] 1 (k + 3) (by simp) (by simp) rfl
  have h2 := or_step r [p, q, r, s] 2 (k + 2) (by simp) (by simp) rfl
  have h3 := or_step s [p, q, r, s] 3 (k + 1) (by simp) (by simp) rfl
  have h4 : cmp_Or_int.l0 (k + 1) 0 [p, q, r, s] (([p, q, r, s] : List Int).length : Int) ((3 + 1 : Nat) : Int) = some 0 := by rw [cmp_Or_int.l0, if_neg (by simp)]
  refine h0.trans ?_
  by_cases c0 : p = 0
  · rw [if_pos c0, if_neg (show ¬ p ≠ 0 from fun x => x c0)]
    refine h1.trans ?_
    by_cases c1 : q = 0
    · rw [if_pos c1, if_neg (show ¬ q ≠ 0 from fun x => x c1)]
      refine h2.trans ?_
      by_cases c2 : r = 0
      · rw [if_pos c2, if_neg (show ¬ r ≠ 0 from fun x => x c2)]
        refine h3.trans ?_
        by_cases c3 : s = 0
        · rw [if_pos c3, h4, c3]
        · rw [if_neg c3]
      · rw [if_neg c2, if_pos c2]
    · rw [if_neg c1, if_pos c1]
  · rw [if_neg c0, if_pos c0]
def vcmpS (a0 a1 : Int) (m : Nat) (s : ByteArray) (b0 b1 : Int) (n : Nat) (t : ByteArray) : Int := orS (cmpI a0 b0) (cmpI a1 b1) (cmpU m n) (Lib.compareBytes s.data.toList t.data.toList)
theorem vcmp_eq {a0 a1 : Int} {m : Nat} {s : ByteArray} {b0 b1 : Int} {n : Nat} {t : ByteArray} {k : Nat} (hm : m < 18446744073709551616) (hn : n < 18446744073709551616) (hk : 5 ≤ k) :
    values_Cmp.f k a0 a1 (m : Int) s b0 b1 (n : Int) t = some (vcmpS a0 a1 m s b0 b1 n t) := by
  obtain ⟨k, rfl⟩ : ∃ j, k = j + 5 := ⟨k - 5, by omega⟩
  unfold values_Cmp.f strings_Compare.f vcmpS
  rw [cmpint_eq, Option.bind_some, cmpint_eq, Option.bind_some, cmp_eq hm hn, Option.bind_some, Option.bind_some, or_eq, Option.bind_some]
end Go.Proofs.Ytldhmbaddiandaa.PValuesThree
