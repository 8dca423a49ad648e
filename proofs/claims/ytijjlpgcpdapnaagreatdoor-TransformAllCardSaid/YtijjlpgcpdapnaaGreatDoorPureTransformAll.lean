
/- TransformAll: what any rows become behind any change, or the first place and error, is what the document says. For every input; no conditions. -/
import Derived.Test.YtijjlpgcpdapnaaGreatDoorF5
import Derived.Test.YtijjlpgcpdapnaaGreatDoorF12
import Derived.Test.YtijjlpgcpdapnaaGreatDoorTransRows
namespace Go.Proofs.YtijjlpgcpdapnaaGreatDoor.Aev
open Go
set_option linter.unusedVariables false
set_option linter.unusedSimpArgs false
set_option maxRecDepth 100000
theorem awake_all (k : Nat) : transomlaw11_awake.f (k + 300) = some true := by kernel_rfl
noncomputable def ansS (nm : ByteArray) (keys : Int) (cols : List C) (c : Ch) (x : List V) : Ans := if x.length ≤ 30 then rowS nm keys cols c x else ([], 0)
theorem Pure.TransformAll (x0 : D_api_Table) (x1 : D_api_Change) (x2 : List (List D_api_Value)) (h0 : Fit T_api_Table x0) (h1 : Fit T_api_Change x1) (h2 : Fit (.sl (.sl T_api_Value)) x2) : ∃ k, transomlaw11_TransformAll.f k x0.1 x0.2.1 x0.2.2.1 x1 x2 = some true := by
  obtain ⟨k, hk⟩ : ∃ k, 20000 ≤ k := ⟨20000, Nat.le_refl _⟩
  obtain ⟨_, _, hf, _⟩ := h0
  refine ⟨k + 10, ?_⟩
  have aw : ∀ j, 300 ≤ j → transomlaw11_awake.f j = some true := fun j hj => by
    obtain ⟨i, rfl⟩ : ∃ i, j = i + 300 := ⟨j - 300, by omega⟩
    exact awake_all i
  have s0t : ∀ j, 301 ≤ j → transomlaw11_TransformAll.s0 j x2 true x0.1 x0.2.1 x0.2.2.1 x1 = some true := fun j hj => by
    obtain ⟨i, rfl⟩ : ∃ i, j = i + 1 := ⟨j - 1, by omega⟩
    simp only [transomlaw11_TransformAll.s0, transomlaw11_TransformAll.s0c, aw i (by omega), cond_true, Option.bind_some]
  obtain ⟨r1, g1, g2⟩ := few10 x1 (k + 10) (by omega)
  obtain ⟨r2, g3, g4⟩ := fewrows x2 (k + 10) (by omega)
  have z1 : ((1 : Int) == 0) = false := rfl
  have z0 : ((0 : Int) == 0) = true := rfl
  simp only [transomlaw11_TransformAll.f, transomlaw11_TransformAll.c, few09 x0.1 x0.2.1 x0.2.2.1 (k + 10) (by omega), g1, g3, Option.bind_some, Option.bind_fun_some]
  by_cases hc : x0.2.2.1.length ≤ 20 ∧ x0.1.size ≤ 500 ∧ fewB x0.2.2.1
  · rw [if_pos hc, z1, cond_false]
    by_cases c1 : r1 = 0
    · rw [c1, z0, cond_true]; exact s0t _ (by omega)
    · rw [beq_eq_false_iff_ne.2 c1, cond_false]
      have hn := g2.resolve_left c1
      by_cases c2 : r2 = 0
      · rw [c2, z0]; exact s0t _ (by omega)
      · rw [beq_eq_false_iff_ne.2 c2]
        obtain ⟨hl30, hrows⟩ := g4.resolve_left c2
        have hl := fit_l hf hc.1 hc.2.2
        have hvv : ∀ x ∈ x2, FewV x ∧ ∀ v ∈ x, OkV v := fun x hx => by
          have a := fit_v (h2.2 x hx) (hrows x hx)
          exact ⟨a, okV_of (h2.2 x hx) a⟩
        have hS : ∀ x ∈ x2, rowS x0.1 x0.2.1 x0.2.2.1 x1 x = ansS x0.1 x0.2.1 x0.2.2.1 x1 x := fun x hx => by
          unfold ansS; rw [if_pos (hrows x hx).1]
        obtain ⟨q, hq⟩ : ∃ q, k + 10 = q + 1 + 1 ∧ 15000 ≤ q := ⟨k + 8, by omega, by omega⟩
        rw [hq.1]
        have hN : ∀ x ∈ x2, (ansS x0.1 x0.2.1 x0.2.2.1 x1 x).2 = 0 → 1 ≤ (ansS x0.1 x0.2.1 x0.2.2.1 x1 x).1.length ∧ (x1.1 = 5 → 2 ≤ (ansS x0.1 x0.2.1 x0.2.2.1 x1 x).1.length) := fun x hx he => by
          rw [← hS x hx] at he ⊢
          exact rowS_n _ _ _ _ _ he
        have e1 := prows_eq x1 x0.1 x0.2.1 x0.2.2.1 x2 (ansS x0.1 x0.2.1 x0.2.2.1 x1) (by omega) (fun x hx j hj => by rw [← hS x hx]; exact prow_eq x0.1 x0.2.1 x0.2.2.1 hl x1 hn x (hvv x hx).1 (hvv x hx).2 j hj) hN q (by omega)
        have e2 := rrows_eq x1 x0.1 x0.2.1 x0.2.2.1 x2 (ansS x0.1 x0.2.1 x0.2.2.1 x1) (by omega) (fun x hx j hj => by rw [← hS x hx]; exact rrow_eq x0.1 x0.2.1 x0.2.2.1 hl x1 hn x (hvv x hx).1 (hvv x hx).2 j hj) hN q (by omega)
        have f1 : FewA (rowsS x1 x2 (ansS x0.1 x0.2.1 x0.2.2.1 x1)).1 := rowsS_few x1 x2 _ (by omega) (fun x y hy => by
          unfold ansS at hy
          split at hy
          · rename_i hx30
            have g1 := gA_le x1 x0.2.1 (atC x1 x0.2.2.1) x0.2.2.1 x 0
            have g2 := gB_le x1 x0.2.1 x0.2.2.1 x 0
            unfold rowS loopS finS at hy
            simp only [List.nil_append, List.drop_zero] at hy
            (repeat' split at hy) <;> simp at hy <;> first | (subst hy; simp; omega) | (rcases hy with rfl | rfl <;> simp <;> omega) | skip
          · simp at hy)
        have e3 := all11 _ f1 q (by omega)
        simp only [transomlaw11_TransformAll.s0, transomlaw11_TransformAll.s0c, transomlaw11_TransformAll.s1, transomlaw11_TransformAll.s1c, cond_false, cond_true, e1, e2, e3, beq_self_eq_true, aw q (by omega), Option.bind_some, Option.bind_fun_some]
  · rw [if_neg hc, z0, cond_true]; exact s0t _ (by omega)
end Go.Proofs.YtijjlpgcpdapnaaGreatDoor.Aev
