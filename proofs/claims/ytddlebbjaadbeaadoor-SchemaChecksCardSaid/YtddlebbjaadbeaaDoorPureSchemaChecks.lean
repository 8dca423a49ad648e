/- SchemaChecks: whether any table may be, or why not; any column; where any name stands: what the document says. For every input; no conditions. -/
import Derived.Test.YtddlebbjaadbeaaDoorF11
import Derived.Test.YtddlebbjaadbeaaDoorF16
import Derived.Test.YtddlebbjaadbeaaDoorSchema
namespace Go.Proofs.YtddlebbjaadbeaaDoor.Aev
open Go
set_option linter.unusedVariables false
set_option linter.unusedSimpArgs false
set_option maxRecDepth 100000
theorem awake_all (k : Nat) : transomlaw09_awake.f (k + 100) = some true := by kernel_rfl
theorem checks_s2 (s nm : ByteArray) (a : Int) {l : List C} (hl : FewL l) : ∀ (m i : Nat), i + m = l.length → ∀ k q, 8000 ≤ k → q = k + m → transomlaw09_SchemaChecks.s2 (q + 1) s (i : Int) nm a l = transomlaw09_awake.f k := by
  intro m
  have hl1 := hl.1
  induction m with
  | zero =>
    intro i hi k q hk hq
    obtain rfl : q = k := hq
    have e : ¬ (i : Int) < (l.length : Int) := by omega
    simp only [transomlaw09_SchemaChecks.s2, transomlaw09_SchemaChecks.s2c, e, decide_false, cond_false, scheck_f nm a hl (show 7000 ≤ q by omega), rscheck_f nm a hl (show 7000 ≤ q by omega), sfind_f nm a l s (by omega) q (by omega), rsfind_f nm a l s (by omega) q (by omega), beq_self_eq_true, cond_true, Option.bind_some, Option.bind_fun_some]
  | succ m ih =>
    intro i hi k q hk hq
    obtain ⟨p, rfl, hp⟩ : ∃ p, q = p + 1 ∧ p = k + m := ⟨k + m, by omega, rfl⟩
    have hlt : i < l.length := by omega
    have e0 : (i : Int) < (l.length : Int) := by omega
    have e1 : (0 : Int) ≤ (i : Int) := by omega
    have e2 : IntKind.wrap IntKind.i64 ((i : Int) + 1) = ((i + 1 : Nat) : Int) := by rw [i64w (by omega) (by omega)]; omega
    have he := elem_c hlt
    have h1 := ih (i + 1) (by omega) k p hk hp
    have hc := checkCol_f (hl.2 l[i] (List.getElem_mem hlt)) (k := p + 1) (by omega)
    have hr := rcheckCol_f (hl.2 l[i] (List.getElem_mem hlt)) (k := p + 1) (by omega)
    generalize hq1 : p + 1 = q at h1 hc hr
    simp only [transomlaw09_SchemaChecks.s2, transomlaw09_SchemaChecks.s2c, e0, e1, e2, he, hq1, h1, hc, hr, decide_true, Bool.and_self, cond_true, bne_self_eq_false, cond_false, Option.bind_some, Option.bind_fun_some]
theorem Pure.SchemaChecks (x0 : D_api_Table) (x1 : ByteArray) (h0 : Fit T_api_Table x0) (h1 : Fit .str x1) : ∃ k, transomlaw09_SchemaChecks.f k x0.1 x0.2.1 x0.2.2.1 x1 = some true := by
  obtain ⟨k, hk⟩ : ∃ k, 20000 ≤ k := ⟨20000, Nat.le_refl _⟩
  obtain ⟨_, _, hf, _⟩ := h0
  refine ⟨k + 3 + x0.2.2.1.length + 100, ?_⟩
  have hfew := few09 x0.1 x0.2.1 x0.2.2.1 (k + 3 + x0.2.2.1.length + 100) (by omega)
  simp only [transomlaw09_SchemaChecks.f, transomlaw09_SchemaChecks.c, hfew, Option.bind_some, Option.bind_fun_some]
  generalize hK : k + 3 + x0.2.2.1.length + 100 = K
  obtain ⟨K, rfl⟩ : ∃ j, K = j + 100 + 2 := ⟨K - 102, by omega⟩
  have aw1 : transomlaw09_awake.f (K + 100 + 1) = some true := awake_all (K + 1)
  have aw0 : transomlaw09_awake.f (K + 100) = some true := awake_all K
  simp only [transomlaw09_SchemaChecks.s0, transomlaw09_SchemaChecks.s0c, transomlaw09_SchemaChecks.s1, transomlaw09_SchemaChecks.s1c, aw1, aw0, Option.bind_some, Option.bind_fun_some]
  by_cases hc : x0.2.2.1.length ≤ 20 ∧ x0.1.size ≤ 500 ∧ fewB x0.2.2.1
  · rw [if_pos hc]
    have hl := fit_l hf hc.1 hc.2.2
    by_cases hs : x1.size ≤ 500
    · have e : ¬ (x1.size : Int) > 500 := by omega
      obtain ⟨j, hj⟩ : ∃ j, K + 100 = j + x0.2.2.1.length + 1 := ⟨K + 100 - x0.2.2.1.length - 1, by omega⟩
      have h2 := checks_s2 x1 x0.1 x0.2.1 hl x0.2.2.1.length 0 (by omega) j (j + x0.2.2.1.length) (by omega) rfl
      rw [← hj] at h2
      obtain ⟨i, rfl⟩ : ∃ i, j = i + 100 := ⟨j - 100, by omega⟩
      rw [awake_all i] at h2
      have h2' : transomlaw09_SchemaChecks.s2 (K + 100) x1 0 x0.1 x0.2.1 x0.2.2.1 = some true := h2
      simp only [e, h2', decide_false, cond_false]; rfl
    · have e : (x1.size : Int) > 500 := by omega
      simp only [e, decide_true, cond_true]; rfl
  · rw [if_neg hc]; rfl
end Go.Proofs.YtddlebbjaadbeaaDoor.Aev
