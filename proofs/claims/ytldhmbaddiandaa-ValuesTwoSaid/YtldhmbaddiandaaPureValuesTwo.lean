/- ValuesTwo: whether any two values are the same, and which comes first, are what the document says. For every input; no conditions. -/
import Derived.Test.YtldhmbaddiandaaBValuesTwoValsOrder
import Derived.Test.YtldhmbaddiandaaBValuesTwoValsRef
namespace Go.Proofs.Ytldhmbaddiandaa.Pure
set_option linter.unusedVariables false
set_option linter.unusedSimpArgs false
open Go.RowKit Go.Proofs.Ytldhmbaddiandaa.PValuesTwo Go.Proofs.YtldhmbaddiandaaW.PrintWords Go.Proofs.YtldhmbaddiandaaW.PrintLast
open Go.Proofs.Ytldhmbaddiandaa.Plain

theorem awake_60 : transomlaw04_awake.f 60 = some true := by decide +kernel
theorem awake_true {k : Nat} (h : 60 ≤ k) : transomlaw04_awake.f k = some true := by
  obtain ⟨j, rfl⟩ : ∃ j, k = 60 + j := ⟨k - 60, by omega⟩
  induction j with
  | zero => exact awake_60
  | succ j ih => exact transomlaw04_awake.mono _ _ (ih (by omega))
theorem refkey_eq {n : Nat} (h : n < 18446744073709551616) (k : Nat) : transomref02_Key.f (k + 2) (n : Int) = some (keyU n : Int) := by
  have hc := canon_lt h
  unfold transomref02_Key.f keyU
  rw [refcanon_eq h, Option.bind_some]
  by_cases c : canon n < 9223372036854775808
  · rw [if_pos (by omega), if_pos c, or_top c]
  · rw [if_neg (by omega), if_neg c, not_u64 hc]
theorem refcmp_eq {a b : Nat} (ha : a < 18446744073709551616) (hb : b < 18446744073709551616) (k : Nat) : transomref02_Cmp.f (k + 2) (a : Int) (b : Int) = some (cmpU a b) := by
  unfold transomref02_Cmp.f cmpU
  rw [refkey_eq ha, Option.bind_some, refkey_eq hb, Option.bind_some]
  by_cases c : keyU a < keyU b
  · rw [if_pos (by omega), if_pos c]
  · rw [if_neg (by omega), if_neg c, Option.bind_some, Option.bind_some]
    by_cases d : keyU b < keyU a
    · rw [if_pos (by omega), if_pos d]
    · rw [if_neg (by omega), if_neg d]
theorem refvcmp_eq {a0 a1 : Int} {m : Nat} {s : ByteArray} {b0 b1 : Int} {n : Nat} {t : ByteArray} (hm : m < 18446744073709551616) (hn : n < 18446744073709551616) (k : Nat) :
    transomref04_Cmp.f (k + 2) a0 a1 (m : Int) s b0 b1 (n : Int) t = some (vcmpS a0 a1 m s b0 b1 n t) := by
  unfold transomref04_Cmp.f transomref04_order.f vcmpS orS
  have less : ∀ a b : Int, a ≠ b → (if decide (a < b) = true then some (-1 : Int) else some 1) = some (cmpI a b) := by
    intro a b h
    unfold cmpI
    by_cases c : a < b
    · rw [decide_eq_true c, if_pos rfl, if_pos c]
    · rw [decide_eq_false c, if_neg Bool.false_ne_true, if_neg c, if_pos (by omega)]
  by_cases c0 : a0 = b0
  · rw [if_pos c0, if_neg (show ¬ cmpI a0 b0 ≠ 0 from fun q => q (cmpI_0.2 c0))]
    by_cases c1 : a1 = b1
    · rw [if_pos c1, if_neg (show ¬ cmpI a1 b1 ≠ 0 from fun q => q (cmpI_0.2 c1)), refcmp_eq hm hn, Option.bind_some]
      by_cases c2 : cmpU m n = 0
      · rw [if_pos c2, if_neg (show ¬ cmpU m n ≠ 0 from fun q => q c2)]
        by_cases c3 : s.toList = t.toList
        · rw [if_pos c3, (cb_0 _ _).2 (by rw [← toList_data, ← toList_data]; exact c3)]
        · rw [if_neg c3, cb_less _ _ (by rw [← toList_data, ← toList_data]; exact c3), ← toList_data, ← toList_data]
          by_cases c4 : Op.bytesLess s.toList t.toList = true
          · rw [if_pos c4, if_pos c4]; rfl
          · rw [if_neg c4, if_neg c4]; rfl
      · rw [if_neg c2, if_pos c2]
    · rw [if_neg c1, if_pos (show cmpI a1 b1 ≠ 0 from fun q => c1 (cmpI_0.1 q)), less _ _ c1]; rfl
  · rw [if_neg c0, if_pos (show cmpI a0 b0 ≠ 0 from fun q => c0 (cmpI_0.1 q)), less _ _ c0]; rfl
theorem same_eq (a0 a1 a2 : Int) (s : ByteArray) (b0 b1 b2 : Int) (t : ByteArray) : ∃ r, values_Same.f a0 a1 a2 s b0 b1 b2 t = some r ∧ transomref04_Same.f a0 a1 a2 s b0 b1 b2 t = some r := by
  refine ⟨_, rfl, ?_⟩
  unfold transomref04_Same.f
  by_cases c0 : a0 = b0
  · rw [if_pos c0, beq_iff_eq.2 c0, Bool.true_and]
    by_cases c1 : a1 = b1
    · rw [if_pos c1, beq_iff_eq.2 c1, Bool.true_and]
      by_cases c2 : a2 = b2
      · rw [if_pos c2, beq_iff_eq.2 c2, Bool.true_and]
      · rw [if_neg c2, beq_eq_false_iff_ne.2 c2, Bool.false_and]
    · rw [if_neg c1, beq_eq_false_iff_ne.2 c1, Bool.false_and]
  · rw [if_neg c0, beq_eq_false_iff_ne.2 c0, Bool.false_and]
theorem ValuesTwo : transomlaw04_ValuesTwo.Pure := by
  intro a0 a1 a2 s b0 b1 b2 t w0 w1 w2 w3 w4 w5 w6 w7
  obtain ⟨m, rfl, hm⟩ := nat_of w2
  obtain ⟨n, rfl, hn⟩ := nat_of w6
  obtain ⟨k, hk⟩ : ∃ k : Nat, 100 ≤ k := ⟨_, Nat.le_refl _⟩
  refine ⟨(k + 2) + 1, ?_⟩
  have jt : transomlaw04_ValuesTwo.j0 ((k + 2) + 1) true a0 a1 m s b0 b1 n t = some true := by
    rw [transomlaw04_ValuesTwo.j0, if_pos rfl, awake_true (by omega)]; rfl
  have jf : transomlaw04_ValuesTwo.j0 ((k + 2) + 1) false a0 a1 m s b0 b1 n t = some true := by
    obtain ⟨r, h1, h2⟩ := same_eq a0 a1 m s b0 b1 n t
    rw [transomlaw04_ValuesTwo.j0, if_neg Bool.false_ne_true, h1, Option.bind_some, h2, Option.bind_some, if_pos (by simp), vcmp_eq hm hn (by omega), Option.bind_some, refvcmp_eq hm hn, Option.bind_some, if_pos rfl, awake_true (by omega)]; rfl
  have jj : ∀ f : Bool, transomlaw04_ValuesTwo.j0 ((k + 2) + 1) f a0 a1 m s b0 b1 n t = some true := by
    intro f; cases f
    · exact jf
    · exact jt
  unfold transomlaw04_ValuesTwo.f transomlaw04_Few.f
  by_cases c : (s.size : Int) > 2000
  · rw [if_pos c, Option.bind_some, if_pos rfl]; exact jj _
  · rw [if_neg c, Option.bind_some, if_neg (show ¬ (1 : Int) = 0 by decide)]
    by_cases d : (t.size : Int) > 2000
    · rw [if_pos d, Option.bind_some]; exact jj _
    · rw [if_neg d, Option.bind_some]; exact jj _
end Go.Proofs.Ytldhmbaddiandaa.Pure
