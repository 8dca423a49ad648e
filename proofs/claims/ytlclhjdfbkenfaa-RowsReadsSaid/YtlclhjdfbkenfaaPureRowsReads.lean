/- RowsReads: any bytes are read as the document says; what is read is written so again. For every input; no conditions. -/
import Derived.Test.YtlclhjdfbkenfaaF8
import Derived.Test.YtlclhjdfbkenfaaF15
import Derived.Test.YtlclhjdfbkenfaaF16
import Derived.Test.YtlclhjdfbkenfaaRowRows
import Derived.Test.YtlclhjdfbkenfaaSameRow
namespace Go.Proofs.Ytlclhjdfbkenfaa.Aev
open Go
set_option linter.unusedVariables false
set_option linter.unusedSimpArgs false
set_option maxRecDepth 100000
theorem awake_all (k : Nat) : transomlaw06_awake.f (k + 60) = some true := by kernel_rfl
theorem refSame_eq (l m : List V) (hl : l.length ≤ 1000) (k : Nat) (hk : 2000 ≤ k) : transomref06_Same.f k l m = some (decide (l = m)) := by
  simp only [transomref06_Same.f, transomref06_Same.c, samerow_eq l m (by omega) k (by omega), Option.bind_some]
theorem Pure.RowsReads (x0 : ByteArray) (h0 : Fit .str x0) : ∃ k, transomlaw06_RowsReads.f k x0 = some true := by
  obtain ⟨k, hk, e⟩ : ∃ k, 9000 ≤ k ∧ 9062 = k + 60 + 1 + 1 := ⟨9000, Nat.le_refl _, rfl⟩
  refine ⟨9062, ?_⟩
  rw [e]
  have aw : transomlaw06_awake.f (k + 60 + 1 + 1) = some true := awake_all (k + 2)
  have aw1 : transomlaw06_awake.f (k + 60) = some true := awake_all k
  have aw2 : transomlaw06_awake.f (k + 60 + 1) = some true := awake_all (k + 1)
  rw [ba_of x0]
  generalize x0.data.toList = l
  simp only [transomlaw06_RowsReads.f, transomlaw06_RowsReads.c, ba_size, aw, Option.bind_some, Option.bind_fun_some]
  by_cases hs : (l.length : Int) > 2000
  · rw [decide_eq_true hs]; rfl
  · rw [decide_eq_false hs]
    have hl : l.length ≤ 1000000000 := by omega
    have r1 := rowsRead_eq l hl (k + 60 + 1 + 1) (by omega)
    have r2 := refRead_eq l hl (k + 60 + 1 + 1) (by omega)
    have hlen := readRow_len l
    have r3 := refSame_eq (readRow l).1 (readRow l).1 (by omega) (k + 60 + 1 + 1) (by omega)
    simp only [r1, r2, r3, cond_false, Option.bind_some, decide_true, Bool.not_true, bne_self_eq_false, transomlaw06_RowsReads.s0, transomlaw06_RowsReads.s0c, transomlaw06_RowsReads.s1, transomlaw06_RowsReads.s1c, aw1, Option.bind_fun_some]
    by_cases h : (readRow l).2 = 0
    · rw [h]
      obtain ⟨f1, f2, f3⟩ := readRow_once (l := l) (vs := (readRow l).1) (by rw [← h])
      have p := rowsPut_eq f1 (k + 60) (by omega)
      rw [f3] at p
      simp only [p, bne_self_eq_false, cond_false, cond_true, Option.bind_some, beq_self_eq_true]
    · rw [bne_iff_ne.2 h]; rfl
end Go.Proofs.Ytlclhjdfbkenfaa.Aev
