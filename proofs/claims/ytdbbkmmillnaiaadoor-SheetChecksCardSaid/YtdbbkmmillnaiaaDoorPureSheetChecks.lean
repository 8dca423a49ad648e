
/- SheetChecks: whether any sheet may be, or why not: what the document says. For every input; no conditions. -/
import Derived.Test.YtdbbkmmillnaiaaDoorF15
import Derived.Test.YtdbbkmmillnaiaaDoorF16
import Derived.Test.YtdbbkmmillnaiaaDoorSheet
namespace Go.Proofs.YtdbbkmmillnaiaaDoor.Aev
open Go
set_option linter.unusedVariables false
set_option linter.unusedSimpArgs false
set_option maxRecDepth 100000
theorem awake_all (k : Nat) : transomlaw12_awake.f (k + 100) = some true := by kernel_rfl
theorem Pure.SheetChecks (x0 : D_api_Sheet) (h0 : Fit T_api_Sheet x0) : ∃ k, transomlaw12_SheetChecks.f k x0.1.1 x0.1.2.1 x0.1.2.2.1 x0.2.1 = some true := by
  obtain ⟨k, hk⟩ : ∃ k, 20000 ≤ k := ⟨20000, Nat.le_refl _⟩
  obtain ⟨⟨_, _, hf, _⟩, hfl, _⟩ := h0
  refine ⟨k + 1 + 1, ?_⟩
  have hfew := few12 x0.1.1 x0.1.2.1 x0.1.2.2.1 x0.2.1 (k + 1 + 1) (by omega)
  have aw : ∀ j, 100 ≤ j → transomlaw12_awake.f j = some true := fun j hj => by
    obtain ⟨i, rfl⟩ : ∃ i, j = i + 100 := ⟨j - 100, by omega⟩
    exact awake_all i
  have aw2 := aw (k + 1 + 1) (by omega)
  have aw1 := aw (k + 1) (by omega)
  have aw0 := aw k (by omega)
  simp only [transomlaw12_SheetChecks.f, transomlaw12_SheetChecks.c, hfew, Option.bind_some, Option.bind_fun_some]
  by_cases hc : (x0.1.2.2.1.length ≤ 20 ∧ x0.1.1.size ≤ 500 ∧ fewB x0.1.2.2.1) ∧ x0.2.1.length ≤ 40 ∧ fewLn x0.2.1
  · rw [if_pos hc]
    have hl := fit_l hf hc.1.1 hc.1.2.2
    obtain ⟨r, h1, h2⟩ := sheet_same x0.1.1 x0.1.2.1 x0.1.2.2.1 hl x0.2.1 hc.2.1 (fit_lines hfl hc.2.2) (k + 1 + 1) (by omega)
    have g : ((1 : Int) == 0) = false := rfl
    simp only [g, h1, h2, aw1, aw2, beq_self_eq_true, cond_true, cond_false, Option.bind_some, Option.bind_fun_some]
  · rw [if_neg hc]
    simp only [aw1, aw2, beq_self_eq_true, cond_true, cond_false, Option.bind_some, Option.bind_fun_some]
end Go.Proofs.YtdbbkmmillnaiaaDoor.Aev
