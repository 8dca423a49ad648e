/- KeycodePuts: the bytes of any values, or the first error, are what the document says. For every input; no conditions. -/
import Derived.Test.YtpcojbnoadnknaaF3
import Derived.Test.YtpcojbnoadnknaaF15
import Derived.Test.YtpcojbnoadnknaaKeyRow
namespace Go.Proofs.Ytpcojbnoadnknaa.Aev
open Go
set_option linter.unusedVariables false
set_option linter.unusedSimpArgs false
set_option maxRecDepth 100000
theorem awake_some : ∃ k, 8000 ≤ k ∧ transomlaw05_awake.f k = some true ∧ transomlaw05_awake.f (k + 1) = some true := ⟨8000, Nat.le_refl _, by kernel_rfl, by kernel_rfl⟩
theorem Pure.KeycodePuts (x0 : List V) (h0 : Fit (.sl VT) x0) : ∃ k, transomlaw05_KeycodePuts.f k x0 = some true := by
  obtain ⟨k, hk, a0, a1⟩ := awake_some
  refine ⟨k + 1, ?_⟩
  simp only [transomlaw05_KeycodePuts.f, transomlaw05_KeycodePuts.c, few05 x0 (k + 1) (by omega), a1, Option.bind_some, Option.bind_fun_some]
  by_cases hf : x0.length ≤ 30 ∧ ∀ v ∈ x0, v.2.2.2.1.size ≤ 2000
  · rw [if_pos hf]
    have hfew := fit_v h0 hf
    obtain ⟨b, hb1, hb2, hb3⟩ := rows_same hfew (k + 1) (k + 1) (by omega) (by omega)
    simp only [hb1, hb2, Option.bind_some, beq_self_eq_true, cond_true]
    by_cases hz : x0.length = 0
    · have e : ¬ (x0.length : Int) > 0 := by omega
      simp only [e, decide_false, cond_false]; rfl
    · have hlt : 0 < x0.length := by omega
      have e : (x0.length : Int) > 0 := by omega
      have e' : (0 : Int) < (x0.length : Int) := by omega
      have he := elem_at hlt
      obtain ⟨hs, n, hn, hn2⟩ := hfew.2 x0[0] (List.getElem_mem hlt)
      obtain ⟨p, hp1, hp2⟩ := kPut_eq x0[0].1 x0[0].2.1 n hn2 x0[0].2.2.2.1 (by omega) (k + 1) (by omega)
      obtain ⟨q, hq1, hq2⟩ := rPut_eq x0[0].1 x0[0].2.1 n hn2 x0[0].2.2.2.1 hs (k + 1) (by omega)
      obtain rfl : p = q := ba_ext (hp2.trans hq2.symm)
      have he0 : elem VT x0 0 = x0[0] := he
      simp only [e, e', he0, hn, hp1, hq1, decide_true, cond_true, Bool.and_self, Option.bind_some, beq_self_eq_true, Bool.not_true, cond_false, bne_self_eq_false, transomlaw05_KeycodePuts.s0, transomlaw05_KeycodePuts.s0c, a0]
      rfl
  · rw [if_neg hf]; rfl
end Go.Proofs.Ytpcojbnoadnknaa.Aev
