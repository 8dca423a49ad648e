/- ValuesThree: the order of values that may be. For every input; no conditions. -/
import Derived.Test.YtldhmbaddiandaaBValuesThreeValsOrder
import Derived.Test.YtldhmbaddiandaaBValuesThreeValsCheck
namespace Go.Proofs.Ytldhmbaddiandaa.Pure
set_option linter.unusedVariables false
set_option linter.unusedSimpArgs false
open Go.RowKit Go.Proofs.Ytldhmbaddiandaa.PValuesThree Go.Proofs.YtldhmbaddiandaaW.PrintWords Go.Proofs.YtldhmbaddiandaaW.PrintLast
open Go.Proofs.Ytldhmbaddiandaa.Plain

theorem awake_60 : transomlaw04_awake.f 60 = some true := by decide +kernel
theorem awake_true {k : Nat} (h : 60 ≤ k) : transomlaw04_awake.f k = some true := by
  obtain ⟨j, rfl⟩ : ∃ j, k = 60 + j := ⟨k - 60, by omega⟩
  induction j with
  | zero => exact awake_60
  | succ j ih => exact transomlaw04_awake.mono _ _ (ih (by omega))
/-- What a value that may be is like. -/
theorem check_0 {a0 a1 : Int} {n : Nat} {s : ByteArray} {b : Bool} (h : checkS a0 a1 n s b = 0) : 0 ≤ a0 ∧ a0 < 6 ∧ fieldsOk a0 a1 n s ∧ (a0 = 1 → a1 = 0 ∨ a1 = 1) ∧ canon n = n := by
  unfold checkS at h
  by_cases c : a0 < 0 ∨ 5 < a0
  · rw [if_pos c] at h; omega
  · rw [if_neg c] at h
    by_cases d : fieldsOk a0 a1 n s
    · rw [if_neg (fun q => q d)] at h
      by_cases e : a0 = 1 ∧ a1 ≠ 0 ∧ a1 ≠ 1
      · rw [if_pos e] at h; omega
      · rw [if_neg e] at h
        by_cases g : canon n = n
        · exact ⟨by omega, by omega, d, by omega, g⟩
        · rw [if_pos g] at h; omega
    · rw [if_pos d] at h; omega
theorem same_eq (a0 a1 : Int) (m : Nat) (s : ByteArray) (b0 b1 : Int) (n : Nat) (t : ByteArray) : values_Same.f a0 a1 m s b0 b1 n t = some (decide (a0 = b0 ∧ a1 = b1 ∧ m = n ∧ s.toList = t.toList)) := by
  unfold values_Same.f
  congr 1
  rw [Bool.eq_iff_iff, decide_eq_true_iff]
  simp only [Bool.and_eq_true, beq_iff_eq, Int.natCast_inj]
theorem zero_le {a0 a1 : Int} {n : Nat} {s : ByteArray} (h2 : a0 ≠ 2) (h3 : a0 ≠ 3) (hf : fieldsOk a0 a1 n s) (h1 : a0 = 1 → a1 = 0 ∨ a1 = 1) : ¬ vcmpS a0 0 0 (⟨#[]⟩ : ByteArray) a0 a1 n s > 0 := by
  obtain ⟨f1, f2, f3⟩ := hf
  have hn : n = 0 := by omega
  subst hn
  have ha : 0 ≤ a1 := by omega
  have e0 : cmpI a0 a0 = 0 := cmpI_0.2 rfl
  have e1 : cmpI 0 a1 ≤ 0 := by
    unfold cmpI; split
    · omega
    · rw [if_neg (by omega)]; omega
  have e2 : cmpU 0 0 = 0 := by rw [cmpU_I]; exact cmpI_0.2 rfl
  have e3 : Lib.compareBytes (⟨#[]⟩ : ByteArray).data.toList s.data.toList ≤ 0 := by
    show Lib.compareBytes [] s.data.toList ≤ 0
    generalize s.data.toList = l
    cases l
    · exact Int.le_refl _
    · show (-1 : Int) ≤ 0; omega
  unfold vcmpS orS
  rw [e0, e2, if_neg (fun q => q rfl), if_neg (show ¬ (0 : Int) ≠ 0 from fun q => q rfl)]
  split <;> omega
theorem ValuesThree : transomlaw04_ValuesThree.Pure := by
  intro a0 a1 a2 s b0 b1 b2 t c0 c1 c2 u w0 w1 w2 w3 w4 w5 w6 w7 w8 w9 w10 w11
  obtain ⟨m, rfl, hm⟩ := nat_of w2
  obtain ⟨n, rfl, hn⟩ := nat_of w6
  obtain ⟨o, rfl, ho⟩ := nat_of w10
  obtain ⟨k, hk⟩ : ∃ k : Nat, 200 ≤ k := ⟨_, Nat.le_refl _⟩
  obtain ⟨rs, bs, hr⟩ := rd_ex s.data.toList.length s.data.toList (Nat.le_refl _)
  obtain ⟨rt, bt, ht⟩ := rd_ex t.data.toList.length t.data.toList (Nat.le_refl _)
  obtain ⟨ru, bu, hu⟩ := rd_ex u.data.toList.length u.data.toList (Nat.le_refl _)
  refine ⟨((k + 1) + 1) + 1, ?_⟩
  have jt : transomlaw04_ValuesThree.j0 (((k + 1) + 1) + 1) true a0 a1 m s b0 b1 n t c0 c1 o u = some true := by
    rw [transomlaw04_ValuesThree.j0, if_pos rfl, awake_true (by omega)]; rfl
  have j2 : transomlaw04_ValuesThree.j2 (k + 1) false a0 a1 m s b0 b1 n t c0 c1 o u = some true := by
    rw [transomlaw04_ValuesThree.j2, if_neg Bool.false_ne_true, vcmp_eq hm hn (by omega), Option.bind_some, awake_true (by omega), Option.bind_some, vcmp_eq hn ho (by omega), Option.bind_some, vcmp_eq hm ho (by omega), Option.bind_some]
    by_cases x : vcmpS a0 a1 m s b0 b1 n t > 0
    · rw [if_pos x]
    · rw [if_neg x]
      by_cases y : vcmpS b0 b1 n t c0 c1 o u > 0
      · rw [if_pos y]
      · rw [if_neg y, if_pos ((vcmp_T a0 a1 m s b0 b1 n t c0 c1 o u).1 ⟨by omega, by omega⟩)]
  unfold transomlaw04_ValuesThree.f
  rw [vcheck_eq hr (by omega), Option.bind_some]
  by_cases h1 : checkS a0 a1 m s bs = 0
  · rw [if_pos h1, vcheck_eq ht (by omega), Option.bind_some]
    by_cases h2 : checkS b0 b1 n t bt = 0
    · rw [if_pos h2, vcheck_eq hu (by omega), Option.bind_some]
      by_cases h3 : checkS c0 c1 o u bu = 0
      · rw [bne_eq_false_iff_eq.2 h3]
        obtain ⟨p1, p2, p3, p4, p5⟩ := check_0 h1
        obtain ⟨q1, q2, q3, q4, q5⟩ := check_0 h2
        have N := vcmp_N a0 a1 m s b0 b1 n t
        have eN : vcmpS a0 a1 m s b0 b1 n t = wrap64 (-(vcmpS b0 b1 n t a0 a1 m s)) := by
          rw [w64id (by have := N.1; have := N.2; omega) (by have := N.1; have := N.2; omega)]; exact N.1
        have eS : ((vcmpS a0 a1 m s b0 b1 n t == 0) != decide (a0 = b0 ∧ a1 = b1 ∧ m = n ∧ s.toList = t.toList)) = false := by
          rw [bne_eq_false_iff_eq, Bool.eq_iff_iff, beq_iff_eq, decide_eq_true_iff, vcmp_0 hm hn, p5, q5]
        rw [transomlaw04_ValuesThree.j0, if_neg Bool.false_ne_true, vcmp_eq hm hn (by omega), Option.bind_some, vcmp_eq hn hm (by omega), Option.bind_some, if_pos eN, Option.bind_some, same_eq, Option.bind_some, eS, transomlaw04_ValuesThree.j1, if_neg Bool.false_ne_true]
        have ez : values_Zero.f a0 = some (a0, 0, 0, (⟨#[]⟩ : ByteArray), 0) := by
          unfold values_Zero.f; rw [if_neg (by omega), if_neg (by omega)]
        rw [ez, Option.bind_some]
        dsimp only
        rw [if_pos rfl]
        by_cases d2 : a0 = 2
        · rw [if_pos d2]; exact j2
        · rw [if_neg d2]
          by_cases d3 : a0 = 3
          · rw [if_pos d3]; exact j2
          · have hz : values_Cmp.f (k + 1) a0 0 0 (⟨#[]⟩ : ByteArray) a0 a1 (m : Int) s = some (vcmpS a0 0 0 (⟨#[]⟩ : ByteArray) a0 a1 m s) := vcmp_eq (m := 0) (by omega) hm (by omega)
            rw [if_neg d3, hz, Option.bind_some, decide_eq_false (zero_le d2 d3 p3 p4)]; exact j2
      · rw [bne_iff_ne.2 h3]; exact jt
    · rw [if_neg h2]; exact jt
  · rw [if_neg h1]; exact jt
end Go.Proofs.Ytldhmbaddiandaa.Pure
