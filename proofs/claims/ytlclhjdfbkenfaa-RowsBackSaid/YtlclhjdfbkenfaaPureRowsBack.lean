/- RowsBack: what is written is read again as it was. For every input; no conditions. -/
import Derived.Test.YtlclhjdfbkenfaaF8
import Derived.Test.YtlclhjdfbkenfaaF15
import Derived.Test.YtlclhjdfbkenfaaF17
import Derived.Test.YtlclhjdfbkenfaaRowRows
import Derived.Test.YtlclhjdfbkenfaaSameRow
namespace Go.Proofs.Ytlclhjdfbkenfaa.Aev
open Go
set_option linter.unusedVariables false
set_option linter.unusedSimpArgs false
set_option maxRecDepth 100000
theorem awake_all (k : Nat) : transomlaw06_awake.f (k + 60) = some true := by kernel_rfl
theorem refSame_eq (l m : List V) (hl : l.length ≤ 1000) (k : Nat) (hk : 2000 ≤ k) : transomref06_Same.f k l m = some (decide (l = m)) := by
  simp only [transomref06_Same.f, transomref06_Same.c, samerow_eq l m (by omega) k (by omega), Option.bind_some]
theorem Pure.RowsBack (x0 : List V) (h0 : Fit (.sl VT) x0) : ∃ k, transomlaw06_RowsBack.f k x0 = some true := by
  obtain ⟨k, hk, e⟩ : ∃ k, 9000 ≤ k ∧ 9061 = k + 60 + 1 := ⟨9000, Nat.le_refl _, rfl⟩
  refine ⟨9061, ?_⟩
  rw [e]
  have aw : transomlaw06_awake.f (k + 60 + 1) = some true := awake_all (k + 1)
  simp only [transomlaw06_RowsBack.f, transomlaw06_RowsBack.c, few05 x0 (k + 60 + 1) (by omega), aw, Option.bind_some, Option.bind_fun_some, transomlaw06_RowsBack.s0, transomlaw06_RowsBack.s0c]
  by_cases hf : x0.length ≤ 30 ∧ ∀ v ∈ x0, v.2.2.2.1.size ≤ 2000
  · rw [if_pos hf]
    have hfew := fit_w h0 hf
    have hl1 := hfew.1.1
    simp only [rowsPut_eq hfew (k + 60 + 1) (by omega), Option.bind_some]
    by_cases h : (rowput x0).2 = 0
    · have hb := readRow_back hfew h
      have hz := rowput_len hfew
      rw [size_eq] at hz
      have r1 := rowsRead_eq (rowput x0).1.data.toList (by omega) (k + 60 + 1) (by omega)
      have r3 := refSame_eq x0 x0 (by omega) (k + 60 + 1) (by omega)
      rw [hb] at r1
      have r1 : rows_Read.f (k + 60 + 1) (rowput x0).1 = some (x0, 0) := r1
      simp only [h, r1, r3, bne_self_eq_false, cond_false, Option.bind_some, beq_self_eq_true, decide_true, cond_true]; rfl
    · have hn := rowput_err h
      rw [bne_iff_ne.2 h, hn]
      simp only [beq_self_eq_true, cond_true]; rfl
  · rw [if_neg hf]; rfl
end Go.Proofs.Ytlclhjdfbkenfaa.Aev
