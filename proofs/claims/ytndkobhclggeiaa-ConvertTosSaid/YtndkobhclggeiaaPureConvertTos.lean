/- ConvertTos: what becomes of any value, or the error, is what the document says. For every input; no conditions. -/
import Derived.Test.YtndkobhclggeiaaF5
import Derived.Test.YtndkobhclggeiaaF14
import Derived.Test.YtndkobhclggeiaaConv
import Derived.Test.YtndkobhclggeiaaFew4
namespace Go.Proofs.Ytndkobhclggeiaa.Aev
open Go
set_option linter.unusedVariables false
set_option linter.unusedSimpArgs false
set_option maxRecDepth 100000
theorem awake_all (k : Nat) : transomlaw07_awake.f (k + 300) = some true := by kernel_rfl
theorem Pure.ConvertTos (x0 : Int × (Int × (Int × (ByteArray × Unit)))) (x1 : Int) (h0 : Fit (.pair (.int .i64) (.pair (.int .i64) (.pair (.int .u64) (.pair .str .unit)))) x0) (h1 : Fit (.int .i64) x1) : ∃ k, transomlaw07_ConvertTos.f k x0.1 x0.2.1 x0.2.2.1 x0.2.2.2.1 x1 = some true := by
  obtain ⟨k, hk⟩ : ∃ k, 9000 ≤ k := ⟨9000, Nat.le_refl _⟩
  refine ⟨k + 300, ?_⟩
  have aw := awake_all k
  generalize hkk : k + 300 = kk at *
  obtain ⟨a0, a1, a2, a3, ⟨⟩⟩ := x0
  obtain ⟨_, f1, f2, _⟩ := h0
  obtain ⟨b0, b1⟩ := fit_i64 f1
  obtain ⟨n, hn, hn2⟩ := nat_of_u64 f2
  simp only at b0 b1 hn ⊢
  subst hn
  rw [ba_of a3]
  generalize a3.data.toList = s
  simp only [transomlaw07_ConvertTos.f, transomlaw07_ConvertTos.c, few04, ba_size, aw, Option.bind_some, Option.bind_fun_some]
  by_cases hs : s.length ≤ 2000
  · rw [if_pos hs]
    have g : ((1 : Int) == 0) = false := rfl
    have t1 := to_eq (a0 := a0) (t := x1) b0 b1 hn2 s (by omega) kk (by omega)
    have t2 := refto_all (a0 := a0) (t := x1) b0 b1 hn2 s (by omega) kk (by omega)
    simp only [g, cond_false, t1, t2, can_eq a0 x1 kk (by omega), refcan_eq a0 x1 kk (by omega), same_eq, and_self, decide_true, beq_self_eq_true, cond_true, Option.bind_some]
  · rw [if_neg hs]; rfl
end Go.Proofs.Ytndkobhclggeiaa.Aev
