
/- SheetMerges: the lines of any two sheets whose keys rise: what the document says. For every input; no conditions. -/
import Derived.Test.YtdbbkmmillnaiaaDoorF9
import Derived.Test.YtdbbkmmillnaiaaDoorF12
import Derived.Test.YtdbbkmmillnaiaaDoorSheetMerge
namespace Go.Proofs.YtdbbkmmillnaiaaDoor.Aev
open Go
set_option linter.unusedVariables false
set_option linter.unusedSimpArgs false
set_option maxRecDepth 100000
theorem awake_all (k : Nat) : transomlaw12_awake.f (k + 100) = some true := by kernel_rfl
theorem Pure.SheetMerges (x0 : D_api_Sheet) (x1 : D_api_Sheet) (h0 : Fit T_api_Sheet x0) (h1 : Fit T_api_Sheet x1) : ∃ k, transomlaw12_SheetMerges.f k x0.1.1 x0.1.2.1 x0.1.2.2.1 x0.2.1 x1.1.1 x1.1.2.1 x1.1.2.2.1 x1.2.1 = some true := by
  obtain ⟨k, hk⟩ : ∃ k, 20000 ≤ k := ⟨20000, Nat.le_refl _⟩
  obtain ⟨⟨_, _, hf, _⟩, hfl, _⟩ := h0
  obtain ⟨⟨_, _, hf', _⟩, hfl', _⟩ := h1
  refine ⟨k + 1 + 1 + 1 + 1, ?_⟩
  have hfew := few12 x0.1.1 x0.1.2.1 x0.1.2.2.1 x0.2.1 (k + 1 + 1 + 1 + 1) (by omega)
  have hfew' := few12 x1.1.1 x1.1.2.1 x1.1.2.2.1 x1.2.1 (k + 1 + 1 + 1 + 1) (by omega)
  have aw : ∀ j, 100 ≤ j → transomlaw12_awake.f j = some true := fun j hj => by
    obtain ⟨i, rfl⟩ : ∃ i, j = i + 100 := ⟨j - 100, by omega⟩
    exact awake_all i
  have aw3 := aw (k + 1 + 1 + 1) (by omega)
  have aw0 := aw k (by omega)
  have z1 : ((1 : Int) == 0) = false := rfl
  have z0 : ((0 : Int) == 0) = true := rfl
  have z2 : ((1 : Int) == 1) = true := rfl
  simp only [transomlaw12_SheetMerges.f, transomlaw12_SheetMerges.c, hfew, hfew', Option.bind_some, Option.bind_fun_some]
  by_cases hc : (x0.1.2.2.1.length ≤ 20 ∧ x0.1.1.size ≤ 500 ∧ fewB x0.1.2.2.1) ∧ x0.2.1.length ≤ 40 ∧ fewLn x0.2.1
  · by_cases hc' : (x1.1.2.2.1.length ≤ 20 ∧ x1.1.1.size ≤ 500 ∧ fewB x1.1.2.2.1) ∧ x1.2.1.length ≤ 40 ∧ fewLn x1.2.1
    · rw [if_pos hc, if_pos hc']
      obtain ⟨r, g1, g2, g3⟩ := rises_f x0.1.1 x0.1.2.1 x0.1.2.2.1 x0.2.1 (by omega) (k + 1 + 1 + 1 + 1) (by omega)
      obtain ⟨r', g1', g2', g3'⟩ := rises_f x1.1.1 x1.1.2.1 x1.1.2.2.1 x1.2.1 (by omega) (k + 1 + 1 + 1 + 1) (by omega)
      simp only [z1, cond_false, g1, g1', Option.bind_some]
      rcases g2 with rfl | rfl
      · simp only [z0, cond_true, transomlaw12_SheetMerges.s0, transomlaw12_SheetMerges.s0c, aw3, Option.bind_some]
      · rcases g2' with rfl | rfl
        · simp only [z0, z1, cond_true, cond_false, transomlaw12_SheetMerges.s0, transomlaw12_SheetMerges.s0c, aw3, Option.bind_some]
        · have hr := g3.1 rfl
          have hr' := g3'.1 rfl
          have hv := fit_lines hfl hc.2.2
          have hv' := fit_lines hfl' hc'.2.2
          have m1 := merge_f x0.1.1 x1.1.1 x0.1.2.1 x1.1.2.1 x0.1.2.2.1 x1.1.2.2.1 x0.2.1 x1.2.1 (by omega) (by omega) hr (k + 1 + 1) (by omega)
          have m2 := rmerge_f x0.1.1 x1.1.1 x0.1.2.1 x1.1.2.1 x0.1.2.2.1 x1.1.2.2.1 x0.2.1 x1.2.1 (by omega) (by omega) (k + 1 + 1) (by omega)
          simp only [z1, cond_false, transomlaw12_SheetMerges.s0, transomlaw12_SheetMerges.s0c, transomlaw12_SheetMerges.s1, transomlaw12_SheetMerges.s1c, m1, m2, Option.bind_some, Option.bind_fun_some]
          cases hm : mergeL x0.2.1 x1.2.1 with
          | none =>
            have hs := samelines_f ([] : List Ln) (by simp) (by simp) (k + 1 + 1) (by omega)
            have z15 : ((15 : Int) != 0) = true := rfl
            simp only [mres, hs, bne_self_eq_false, Bool.not_true, cond_false, transomlaw12_SheetMerges.s2, transomlaw12_SheetMerges.s2c, transomlaw12_SheetMerges.s3, transomlaw12_SheetMerges.s3c, z15, cond_true, aw0, Option.bind_some, Option.bind_fun_some]
          | some q =>
            have hq := mergeL_len hm
            have hqm := mergeL_mem hm
            have hqr := mergeL_rise hr hr' hm
            have hs := samelines_f q (by omega) (few_lines (fun x hx => (hqm x hx).elim (hv x) (hv' x))) (k + 1 + 1) (by omega)
            obtain ⟨t, t1, t2, t3⟩ := rises_f (ByteArray.mk (List.toArray [])) 0 [] q (by omega) k (by omega)
            have ht : t = 1 := t3.2 hqr
            subst ht
            have e : IntKind.wrap IntKind.i64 ((x0.2.1.length : Int) + (x1.2.1.length : Int)) = (q.length : Int) := by rw [i64w (by omega) (by omega)]; omega
            simp only [mres, List.nil_append, hs, bne_self_eq_false, Bool.not_true, cond_false, transomlaw12_SheetMerges.s2, transomlaw12_SheetMerges.s2c, transomlaw12_SheetMerges.s3, transomlaw12_SheetMerges.s3c, e, beq_self_eq_true, t1, cond_true, aw0, Option.bind_some, Option.bind_fun_some]
    · rw [if_pos hc, if_neg hc']
      simp only [z0, z1, cond_true, cond_false, transomlaw12_SheetMerges.s0, transomlaw12_SheetMerges.s0c, aw3, Option.bind_some]
  · rw [if_neg hc]
    simp only [z0, cond_true, transomlaw12_SheetMerges.s0, transomlaw12_SheetMerges.s0c, aw3, Option.bind_some]
end Go.Proofs.YtdbbkmmillnaiaaDoor.Aev
