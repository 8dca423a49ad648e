/- RowsPuts: the bytes of any row, or the error, are what the document says. For every input; no conditions. -/
import Derived.Test.YtlclhjdfbkenfaaF8
import Derived.Test.YtlclhjdfbkenfaaF13
import Derived.Test.YtlclhjdfbkenfaaRowPut
namespace Go.Proofs.Ytlclhjdfbkenfaa.Aev
open Go
set_option linter.unusedVariables false
set_option linter.unusedSimpArgs false
set_option maxRecDepth 100000
theorem awake_all (k : Nat) : transomlaw06_awake.f (k + 60) = some true := by kernel_rfl
theorem Pure.RowsPuts (x0 : List V) (h0 : Fit (.sl VT) x0) : ∃ k, transomlaw06_RowsPuts.f k x0 = some true := by
  obtain ⟨k, hk, e⟩ : ∃ k, 9000 ≤ k ∧ 9060 = k + 60 := ⟨9000, Nat.le_refl _, rfl⟩
  refine ⟨9060, ?_⟩
  rw [e]
  simp only [transomlaw06_RowsPuts.f, transomlaw06_RowsPuts.c, few05 x0 (k + 60) (by omega), awake_all, Option.bind_some, Option.bind_fun_some]
  by_cases hf : x0.length ≤ 30 ∧ ∀ v ∈ x0, v.2.2.2.1.size ≤ 2000
  · rw [if_pos hf]
    have hfew := fit_w h0 hf
    simp only [rowsPut_eq hfew (k + 60) (by omega), refPut_eq hfew (k + 60) (by omega), Option.bind_some, beq_self_eq_true, cond_true]; rfl
  · rw [if_neg hf]; rfl
end Go.Proofs.Ytlclhjdfbkenfaa.Aev
