/- WordsValues: a value as a word, and a word's value, are what the document says. For every input; no conditions. -/
import Derived.Test.YtchlbajnmhffpaaF6
import Derived.Test.YtchlbajnmhffpaaF18
import Derived.Test.YtchlbajnmhffpaaWShow
import Derived.Test.YtchlbajnmhffpaaFew4
namespace Go.Proofs.Ytchlbajnmhffpaa.Aev
open Go
set_option linter.unusedVariables false
set_option linter.unusedSimpArgs false
set_option maxRecDepth 100000
theorem awake_all (k : Nat) : transomlaw36_awake.f (k + 400) = some true := by kernel_rfl
theorem Pure.WordsValues (x0 : Int × (Int × (Int × (ByteArray × Unit)))) (x1 : ByteArray) (h0 : Fit (.pair (.int .i64) (.pair (.int .i64) (.pair (.int .u64) (.pair .str .unit)))) x0) (h1 : Fit .str x1) : ∃ k, transomlaw36_WordsValues.f k x0.1 x0.2.1 x0.2.2.1 x0.2.2.2.1 x1 = some true := by
  obtain ⟨k, hk, e⟩ : ∃ k, 9900000 ≤ k ∧ 9900402 = k + 400 + 1 + 1 := ⟨9900000, Nat.le_refl _, rfl⟩
  refine ⟨9900402, ?_⟩
  rw [e]
  have aw2 : transomlaw36_awake.f (k + 400 + 1) = some true := awake_all (k + 1)
  have aw1 : transomlaw36_awake.f (k + 400) = some true := awake_all k
  obtain ⟨a0, a1, a2, a3, ⟨⟩⟩ := x0
  obtain ⟨_, f1, f2, _⟩ := h0
  obtain ⟨b0, b1⟩ := fit_i64 f1
  obtain ⟨n, hn, hn2⟩ := nat_of_u64 f2
  simp only at b0 b1 hn ⊢
  subst hn
  rw [ba_of x1, ba_of a3]
  generalize x1.data.toList = l
  generalize a3.data.toList = s
  have stop : transomlaw36_WordsValues.s0 (k + 400 + 1 + 1) (mkW l) true a0 a1 (n : Int) (mkW s) = some true := by
    simp only [transomlaw36_WordsValues.s0, transomlaw36_WordsValues.s0c, cond_true, aw2, Option.bind_some]
  simp only [transomlaw36_WordsValues.f, transomlaw36_WordsValues.c, few04, ba_size, Option.bind_some, Option.bind_fun_some]
  by_cases hs : s.length ≤ 2000
  · rw [if_pos hs]
    by_cases hl : (l.length : Int) > 2000
    · rw [decide_eq_true hl]; exact stop
    · rw [decide_eq_false hl]
      have s1 := show_eq a0 a1 b0 b1 n hn2 s (by omega) (k + 400) (by omega)
      have s2 := refshow_eq a0 a1 b0 b1 n hn2 s (by omega) (k + 400) (by omega)
      have v1 := wvalue_eq l (by omega) (k + 400) (by omega)
      have v2 := refwvalue_eq l (by omega) (k + 400) (by omega)
      have g : ((1 : Int) == 0) = false := rfl
      simp only [g, cond_false, transomlaw36_WordsValues.s0, transomlaw36_WordsValues.s0c, transomlaw36_WordsValues.s1, transomlaw36_WordsValues.s1c, s1, s2, v1, v2, aw1, same_eq, cond_true, Option.bind_some, Option.bind_fun_some, beq_self_eq_true, and_self, decide_true]
  · rw [if_neg hs]; exact stop
end Go.Proofs.Ytchlbajnmhffpaa.Aev
