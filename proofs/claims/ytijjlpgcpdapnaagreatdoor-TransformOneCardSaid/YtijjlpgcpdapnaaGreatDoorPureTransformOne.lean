
/- TransformOne: what any row becomes behind any change, or the first error, is what the document says. For every input; no conditions. -/
import Derived.Test.YtijjlpgcpdapnaaGreatDoorF5
import Derived.Test.YtijjlpgcpdapnaaGreatDoorF10
import Derived.Test.YtijjlpgcpdapnaaGreatDoorTransRow
namespace Go.Proofs.YtijjlpgcpdapnaaGreatDoor.Aev
open Go
set_option linter.unusedVariables false
set_option linter.unusedSimpArgs false
set_option maxRecDepth 100000
theorem awake_all (k : Nat) : transomlaw11_awake.f (k + 300) = some true := by kernel_rfl
theorem Pure.TransformOne (x0 : D_api_Table) (x1 : D_api_Change) (x2 : List D_api_Value) (h0 : Fit T_api_Table x0) (h1 : Fit T_api_Change x1) (h2 : Fit (.sl T_api_Value) x2) : ∃ k, transomlaw11_TransformOne.f k x0.1 x0.2.1 x0.2.2.1 x1 x2 = some true := by
  obtain ⟨k, hk⟩ : ∃ k, 20000 ≤ k := ⟨20000, Nat.le_refl _⟩
  obtain ⟨_, _, hf, _⟩ := h0
  refine ⟨k + 10, ?_⟩
  have aw : ∀ j, 300 ≤ j → transomlaw11_awake.f j = some true := fun j hj => by
    obtain ⟨i, rfl⟩ : ∃ i, j = i + 300 := ⟨j - 300, by omega⟩
    exact awake_all i
  have s0t : ∀ j, 301 ≤ j → transomlaw11_TransformOne.s0 j x2 true x0.1 x0.2.1 x0.2.2.1 x1 = some true := fun j hj => by
    obtain ⟨i, rfl⟩ : ∃ i, j = i + 1 := ⟨j - 1, by omega⟩
    simp only [transomlaw11_TransformOne.s0, transomlaw11_TransformOne.s0c, aw i (by omega), cond_true, Option.bind_some]
  obtain ⟨r1, g1, g2⟩ := few10 x1 (k + 10) (by omega)
  have z1 : ((1 : Int) == 0) = false := rfl
  have z0 : ((0 : Int) == 0) = true := rfl
  simp only [transomlaw11_TransformOne.f, transomlaw11_TransformOne.c, few09 x0.1 x0.2.1 x0.2.2.1 (k + 10) (by omega), g1, few05 x2 (k + 10) (by omega), Option.bind_some, Option.bind_fun_some]
  by_cases hc : x0.2.2.1.length ≤ 20 ∧ x0.1.size ≤ 500 ∧ fewB x0.2.2.1
  · rw [if_pos hc, z1, cond_false]
    by_cases c1 : r1 = 0
    · rw [c1, z0, cond_true]; exact s0t _ (by omega)
    · rw [beq_eq_false_iff_ne.2 c1, cond_false]
      have hn := g2.resolve_left c1
      by_cases hv : x2.length ≤ 30 ∧ ∀ v ∈ x2, v.2.2.2.1.size ≤ 2000
      · rw [if_pos hv, z1]
        have hl := fit_l hf hc.1 hc.2.2
        have hvv := fit_v h2 hv
        have hok := okV_of h2 hvv
        obtain ⟨q, hq⟩ : ∃ q, k + 10 = q + 1 + 1 ∧ 15000 ≤ q := ⟨k + 8, by omega, by omega⟩
        rw [hq.1]
        have e1 := prow_eq x0.1 x0.2.1 x0.2.2.1 hl x1 hn x2 hvv hok q (by omega)
        have e2 := rrow_eq x0.1 x0.2.1 x0.2.2.1 hl x1 hn x2 hvv hok q (by omega)
        obtain ⟨f1, f2⟩ := rowS_few x0.1 x0.2.1 x0.2.2.1 x1 x2 hvv
        have e3 := rowsall_f (rowS x0.1 x0.2.1 x0.2.2.1 x1 x2).1 (by omega) (fun x hx => by have := f2 x hx; omega) q (by omega)
        simp only [transomlaw11_TransformOne.s0, transomlaw11_TransformOne.s0c, transomlaw11_TransformOne.s1, transomlaw11_TransformOne.s1c, cond_false, cond_true, e1, e2, e3, beq_self_eq_true, aw q (by omega), Option.bind_some, Option.bind_fun_some]
      · rw [if_neg hv, z0]; exact s0t _ (by omega)
  · rw [if_neg hc, z0, cond_true]; exact s0t _ (by omega)
end Go.Proofs.YtijjlpgcpdapnaaGreatDoor.Aev
