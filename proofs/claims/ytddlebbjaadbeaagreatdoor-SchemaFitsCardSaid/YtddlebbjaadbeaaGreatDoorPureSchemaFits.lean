/- SchemaFits: why a row, or a key, does not fit any table, and a row's key's bytes: what the document says. For every input; no conditions. -/
import Derived.Test.YtddlebbjaadbeaaGreatDoorF10
import Derived.Test.YtddlebbjaadbeaaGreatDoorF16
import Derived.Test.YtddlebbjaadbeaaGreatDoorFitsR
namespace Go.Proofs.YtddlebbjaadbeaaGreatDoor.Aev
open Go
set_option linter.unusedVariables false
set_option linter.unusedSimpArgs false
set_option maxRecDepth 100000
theorem awake_all (k : Nat) : transomlaw09_awake.f (k + 100) = some true := by kernel_rfl
theorem Pure.SchemaFits (x0 : D_api_Table) (x1 : List D_api_Value) (x2 : Bool) (h0 : Fit T_api_Table x0) (h1 : Fit (.sl T_api_Value) x1) (h2 : Fit .bool x2) : ∃ k, transomlaw09_SchemaFits.f k x0.1 x0.2.1 x0.2.2.1 x1 x2 = some true := by
  obtain ⟨k, hk⟩ : ∃ k, 20000 ≤ k := ⟨20000, Nat.le_refl _⟩
  obtain ⟨_, _, hf, _⟩ := h0
  refine ⟨k + 10, ?_⟩
  simp only [transomlaw09_SchemaFits.f, transomlaw09_SchemaFits.c, few09 x0.1 x0.2.1 x0.2.2.1 (k + 10) (by omega), few05 x1 (k + 10) (by omega), Option.bind_some, Option.bind_fun_some]
  have aw : ∀ j, 100 ≤ j → transomlaw09_awake.f j = some true := fun j hj => by
    obtain ⟨i, rfl⟩ : ∃ i, j = i + 100 := ⟨j - 100, by omega⟩
    exact awake_all i
  have s0t : ∀ j, 101 ≤ j → transomlaw09_SchemaFits.s0 j x1 x2 true x0.1 x0.2.1 x0.2.2.1 = some true := fun j hj => by
    obtain ⟨i, rfl⟩ : ∃ i, j = i + 1 := ⟨j - 1, by omega⟩
    simp only [transomlaw09_SchemaFits.s0, transomlaw09_SchemaFits.s0c, aw i (by omega), cond_true, Option.bind_some]
  by_cases hc : x0.2.2.1.length ≤ 20 ∧ x0.1.size ≤ 500 ∧ fewB x0.2.2.1
  · rw [if_pos hc]
    by_cases hv : x1.length ≤ 30 ∧ ∀ v ∈ x1, v.2.2.2.1.size ≤ 2000
    · rw [if_pos hv]
      have hl := fit_l hf hc.1 hc.2.2
      have hvv := fit_v h1 hv
      show transomlaw09_SchemaFits.s0 (k + 10) x1 x2 false x0.1 x0.2.1 x0.2.2.1 = some true
      obtain ⟨q, hq⟩ : ∃ q, k + 10 = q + 1 + 1 ∧ 10000 ≤ q := ⟨k + 8, by omega, by omega⟩
      rw [hq.1]
      obtain ⟨r, hr1, hr2⟩ := keys_same x1 hvv x0.2.2.1 hl x0.1 x0.2.1 q (by omega)
      simp only [transomlaw09_SchemaFits.s0, transomlaw09_SchemaFits.s0c, transomlaw09_SchemaFits.s1, transomlaw09_SchemaFits.s1c, cond_false, cond_true, hr1, hr2, sfits_f x1 hvv x0.2.2.1 hl x0.1 x0.2.1 q (by omega), rsfits_f x1 hvv x0.2.2.1 hl x0.1 x0.2.1 q (by omega), sfitsKey_f x1 hvv x0.2.2.1 hl x0.1 x0.2.1 x2 q (by omega), rsfitsKey_f x1 hvv x0.2.2.1 hl x0.1 x0.2.1 x2 q (by omega), beq_self_eq_true, aw q (by omega), Option.bind_some, Option.bind_fun_some]
    · rw [if_neg hv]; exact s0t _ (by omega)
  · rw [if_neg hc]; exact s0t _ (by omega)
end Go.Proofs.YtddlebbjaadbeaaGreatDoor.Aev
