/- ValuesOne: whether any value may be, or why not, is what the document says. For every input; no conditions. -/
import Derived.Test.YtldhmbaddiandaaBValuesOneValsRefCheck
namespace Go.Proofs.Ytldhmbaddiandaa.Pure
set_option linter.unusedVariables false
set_option linter.unusedSimpArgs false
open Go.RowKit Go.Proofs.Ytldhmbaddiandaa.PValuesOne Go.Proofs.YtldhmbaddiandaaW.PrintWords Go.Proofs.YtldhmbaddiandaaW.PrintLast
open Go.Proofs.Ytldhmbaddiandaa.Plain

theorem awake_60 : transomlaw04_awake.f 60 = some true := by decide +kernel
theorem awake_true {k : Nat} (h : 60 ≤ k) : transomlaw04_awake.f k = some true := by
  obtain ⟨j, rfl⟩ : ∃ j, k = 60 + j := ⟨k - 60, by omega⟩
  induction j with
  | zero => exact awake_60
  | succ j ih => exact transomlaw04_awake.mono _ _ (ih (by omega))
theorem ValuesOne : transomlaw04_ValuesOne.Pure := by
  intro a0 a1 a2 s w0 w1 w2 w3
  obtain ⟨n, rfl, hn⟩ := nat_of w2
  obtain ⟨k, hk⟩ : ∃ k : Nat, 200 ≤ k := ⟨_, Nat.le_refl _⟩
  obtain ⟨rs, b, hr⟩ := rd_ex s.data.toList.length s.data.toList (Nat.le_refl _)
  refine ⟨k, ?_⟩
  unfold transomlaw04_ValuesOne.f transomlaw04_Few.f
  by_cases c : (s.size : Int) > 2000
  · rw [if_pos c, Option.bind_some, if_pos rfl, awake_true (by omega)]; rfl
  · rw [if_neg c, Option.bind_some, if_neg (by omega), vcheck_eq hr (by omega), Option.bind_some, rcheck_eq hn hr (by omega), Option.bind_some, if_pos rfl, awake_true (by omega)]; rfl
end Go.Proofs.Ytldhmbaddiandaa.Pure
