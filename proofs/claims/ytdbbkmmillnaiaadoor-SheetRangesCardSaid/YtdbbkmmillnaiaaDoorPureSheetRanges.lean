
/- SheetRanges: rows of any sheet whose keys rise, from any key on, ahead of any, so many at most: what the document says. For every input; no conditions. -/
import Derived.Test.YtdbbkmmillnaiaaDoorF9
import Derived.Test.YtdbbkmmillnaiaaDoorF14
import Derived.Test.YtdbbkmmillnaiaaDoorSheetRange
namespace Go.Proofs.YtdbbkmmillnaiaaDoor.Aev
open Go
set_option linter.unusedVariables false
set_option linter.unusedSimpArgs false
set_option maxRecDepth 100000
theorem awake_all (k : Nat) : transomlaw12_awake.f (k + 100) = some true := by kernel_rfl
theorem Pure.SheetRanges (x0 : D_api_Sheet) (x1 : D_transomlaw12_Cut) (h0 : Fit T_api_Sheet x0) (h1 : Fit T_transomlaw12_Cut x1) : ∃ k, transomlaw12_SheetRanges.f k x0.1.1 x0.1.2.1 x0.1.2.2.1 x0.2.1 x1.1 x1.2.1 x1.2.2.1 = some true := by
  obtain ⟨k, hk⟩ : ∃ k, 20000 ≤ k := ⟨20000, Nat.le_refl _⟩
  obtain ⟨⟨_, _, hf, _⟩, hfl, _⟩ := h0
  refine ⟨k + 1 + 1, ?_⟩
  have hfew := few12 x0.1.1 x0.1.2.1 x0.1.2.2.1 x0.2.1 (k + 1 + 1) (by omega)
  have aw : ∀ j, 100 ≤ j → transomlaw12_awake.f j = some true := fun j hj => by
    obtain ⟨i, rfl⟩ : ∃ i, j = i + 100 := ⟨j - 100, by omega⟩
    exact awake_all i
  have aw1 := aw (k + 1) (by omega)
  have aw0 := aw k (by omega)
  have z1 : ((1 : Int) == 0) = false := rfl
  have z0 : ((0 : Int) == 0) = true := rfl
  simp only [transomlaw12_SheetRanges.f, transomlaw12_SheetRanges.c, hfew, Option.bind_some, Option.bind_fun_some]
  by_cases hc : (x0.1.2.2.1.length ≤ 20 ∧ x0.1.1.size ≤ 500 ∧ fewB x0.1.2.2.1) ∧ x0.2.1.length ≤ 40 ∧ fewLn x0.2.1
  · rw [if_pos hc]
    obtain ⟨r, g1, g2, g3⟩ := rises_f x0.1.1 x0.1.2.1 x0.1.2.2.1 x0.2.1 (by omega) (k + 1 + 1) (by omega)
    simp only [z1, cond_false, g1, Option.bind_some]
    rcases g2 with rfl | rfl
    · simp only [z0, cond_true, transomlaw12_SheetRanges.s0, transomlaw12_SheetRanges.s0c, aw1, Option.bind_some]
    · have hr := g3.1 rfl
      simp only [z1, cond_false]
      have hv := fit_lines hfl hc.2.2
      have m1 := range_f x0.1.1 x0.1.2.1 x0.1.2.2.1 x0.2.1 x1.1 x1.2.1 x1.2.2.1 (by omega) hr k (by omega)
      have m2 := rrange_f x0.1.1 x0.1.2.1 x0.1.2.2.1 x0.2.1 x1.1 x1.2.1 x1.2.2.1 (by omega) hr k (by omega)
      have m3 := all_f (rowsOf (rngL x1.2.1 x1.2.2.1.toNat (x0.2.1.drop (pos x0.2.1 x1.1)))) (by
          have := (rngL_len x1.2.1 x1.2.2.1.toNat (x0.2.1.drop (pos x0.2.1 x1.1))).2
          rw [List.length_drop] at this
          unfold rowsOf; rw [List.length_map]; omega) (by
          intro v hv'
          obtain ⟨y, hy, rfl⟩ := List.mem_map.1 hv'
          exact few_lines hv y (List.mem_of_mem_drop (rngL_mem _ _ _ y hy))) k (by omega)
      have tail : ∀ b : Bool, (bif b then transomlaw12_awake.f (k + 1) else transomlaw12_SheetRanges.s1 (k + 1) x0.1.1 x0.1.2.1 x0.1.2.2.1 x0.2.1 x1.1 x1.2.1 x1.2.2.1) = some true := by
        intro b
        cases b with
        | true => exact aw1
        | false => simp only [cond_false, transomlaw12_SheetRanges.s1, transomlaw12_SheetRanges.s1c, m1, m2, m3, aw0, cond_true, Option.bind_some, Option.bind_fun_some]
      by_cases d : (x1.1.size : Int) > 2000
      · simp only [d, decide_true, cond_true, transomlaw12_SheetRanges.s0, transomlaw12_SheetRanges.s0c, aw1, Option.bind_some]
      · have := tail (decide ((x1.2.1.size : Int) > 2000))
        simp only [d, decide_false, cond_false, transomlaw12_SheetRanges.s0, transomlaw12_SheetRanges.s0c, Option.bind_fun_some, this]
  · rw [if_neg hc]
    simp only [z0, cond_true, transomlaw12_SheetRanges.s0, transomlaw12_SheetRanges.s0c, aw1, Option.bind_some]
end Go.Proofs.YtdbbkmmillnaiaaDoor.Aev
