
/- OpsPuts: whatever is asked, as bytes, or the first error: what the document says. For every input; no conditions. -/
import Derived.Test.YtaehpfmnejeddaaGreatDoorF6
import Derived.Test.YtaehpfmnejeddaaGreatDoorF14
import Derived.Test.YtaehpfmnejeddaaGreatDoorOpsPut
namespace Go.Proofs.YtaehpfmnejeddaaGreatDoor.Aev
open Go
set_option linter.unusedVariables false
set_option linter.unusedSimpArgs false
set_option maxRecDepth 100000
theorem awake_all (k : Nat) : transomlaw14_awake.f (k + 100) = some true := by kernel_rfl
theorem Pure.OpsPuts (x0 : D_api_Op) (h0 : Fit T_api_Op x0) : ∃ k, transomlaw14_OpsPuts.f k x0 = some true := by
  obtain ⟨k, hk⟩ : ∃ k, 20000 ≤ k := ⟨20000, Nat.le_refl _⟩
  refine ⟨k, ?_⟩
  obtain ⟨r, h1, h2⟩ := few13 x0 h0 k (by omega)
  have aw : transomlaw14_awake.f k = some true := by
    obtain ⟨i, rfl⟩ : ∃ i, k = i + 100 := ⟨k - 100, by omega⟩
    exact awake_all i
  simp only [transomlaw14_OpsPuts.f, transomlaw14_OpsPuts.c, h1, Option.bind_some]
  by_cases c : r = 0
  · simp only [c, beq_self_eq_true, cond_true, aw, Option.bind_some]
  · have hf := h2.resolve_left c
    simp only [beq_eq_false_iff_ne.2 c, cond_false, putO_f hf k (by omega), rputO_f hf k (by omega), beq_self_eq_true, cond_true, aw, Option.bind_some]
end Go.Proofs.YtaehpfmnejeddaaGreatDoor.Aev
