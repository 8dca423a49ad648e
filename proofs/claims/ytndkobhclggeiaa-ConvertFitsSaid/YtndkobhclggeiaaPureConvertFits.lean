/- ConvertFits: what becomes of a value may be, and is null, or of that kind. For every input; no conditions. -/
import Derived.Test.YtndkobhclggeiaaF5
import Derived.Test.YtndkobhclggeiaaF16
import Derived.Test.YtndkobhclggeiaaConvBack
import Derived.Test.YtndkobhclggeiaaFew4
namespace Go.Proofs.Ytndkobhclggeiaa.Aev
open Go
set_option linter.unusedVariables false
set_option linter.unusedSimpArgs false
set_option maxRecDepth 100000
theorem awake_all (k : Nat) : transomlaw07_awake.f (k + 300) = some true := by kernel_rfl
theorem Pure.ConvertFits (x0 : Int × (Int × (Int × (ByteArray × Unit)))) (x1 : Int) (h0 : Fit (.pair (.int .i64) (.pair (.int .i64) (.pair (.int .u64) (.pair .str .unit)))) x0) (h1 : Fit (.int .i64) x1) : ∃ k, transomlaw07_ConvertFits.f k x0.1 x0.2.1 x0.2.2.1 x0.2.2.2.1 x1 = some true := by
  obtain ⟨k, hk⟩ : ∃ k, 9000 ≤ k := ⟨9000, Nat.le_refl _⟩
  refine ⟨k + 300, ?_⟩
  have aw := awake_all k
  obtain ⟨kk, hkk⟩ : ∃ kk, k + 300 = kk + 1 := ⟨k + 299, rfl⟩
  rw [hkk] at aw ⊢
  obtain ⟨a0, a1, a2, a3, ⟨⟩⟩ := x0
  obtain ⟨_, f1, f2, _⟩ := h0
  obtain ⟨b0, b1⟩ := fit_i64 f1
  obtain ⟨n, hn, hn2⟩ := nat_of_u64 f2
  simp only at b0 b1 hn ⊢
  subst hn
  rw [ba_of a3]
  generalize a3.data.toList = s
  simp only [transomlaw07_ConvertFits.f, transomlaw07_ConvertFits.c, few04, ba_size, aw, Option.bind_some, Option.bind_fun_some]
  by_cases hs : s.length ≤ 2000
  · rw [if_pos hs]
    have g : ((1 : Int) == 0) = false := rfl
    have t1 := to_eq (a0 := a0) (t := x1) b0 b1 hn2 s (by omega) (kk + 1) (by omega)
    simp only [g, cond_false, t1, Option.bind_some]
    cases hR : toC a0 a1 n s x1 with
    | no e =>
      have he := toC_no hR
      have q : (encC (.no e)).2.2.2.2 = e := rfl
      have q0 : (encC (.no e)).1 = 0 := rfl
      have q1 : (encC (.no e)).2.1 = 0 := rfl
      have q2 : (encC (.no e)).2.2.1 = 0 := rfl
      have q3 : (encC (.no e)).2.2.2.1 = nilB := rfl
      simp only [q, q0, q1, q2, q3, bne_iff_ne.2 he, cond_true, same_eq, and_self, decide_true, Option.bind_some, transomlaw07_ConvertFits.s0, transomlaw07_ConvertFits.s0c]
    | ok t' b m u =>
      obtain ⟨c1, c2⟩ := fits_core b0 b1 (by omega) hR
      have q : (encC (.ok t' b m u)).2.2.2.2 = 0 := rfl
      have q0 : (encC (.ok t' b m u)).1 = t' := rfl
      have q1 : (encC (.ok t' b m u)).2.1 = b := rfl
      have q2 : (encC (.ok t' b m u)).2.2.1 = (m : Int) := rfl
      have q3 : (encC (.ok t' b m u)).2.2.2.1 = mkB u := rfl
      simp only [q, q0, q1, q2, q3, bne_self_eq_false, cond_false, vcheck_eq (show 120 ≤ kk + 1 by omega), c1, beq_self_eq_true, cond_true, Option.bind_some]
      rcases c2 with rfl | ⟨rfl, rfl⟩
      · simp only [beq_self_eq_true, cond_true]
      · by_cases z : (0 : Int) = x1
        · rw [show ((0 : Int) == x1) = true from beq_iff_eq.2 z]; rfl
        · rw [show ((0 : Int) == x1) = false from beq_eq_false_iff_ne.2 z]; rfl
  · rw [if_neg hs]; rfl
end Go.Proofs.Ytndkobhclggeiaa.Aev
