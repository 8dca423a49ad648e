/- WordsSplits: a line's words are those the document says. For every input; no conditions. -/
import Derived.Test.YtchlbajnmhffpaaF6
import Derived.Test.YtchlbajnmhffpaaF9
import Derived.Test.YtchlbajnmhffpaaWSplit
namespace Go.Proofs.Ytchlbajnmhffpaa.Aev
open Go
set_option linter.unusedVariables false
set_option linter.unusedSimpArgs false
set_option maxRecDepth 100000
theorem awake_all (k : Nat) : transomlaw36_awake.f (k + 400) = some true := by kernel_rfl
theorem Pure.WordsSplits (x0 : ByteArray) (h0 : Fit .str x0) : ∃ k, transomlaw36_WordsSplits.f k x0 = some true := by
  obtain ⟨k, hk, e⟩ : ∃ k, 90000 ≤ k ∧ 90400 = k + 400 := ⟨90000, Nat.le_refl _, rfl⟩
  refine ⟨90400, ?_⟩
  rw [e]
  rw [ba_of x0]
  generalize x0.data.toList = l
  simp only [transomlaw36_WordsSplits.f, transomlaw36_WordsSplits.c, ba_size, awake_all, Option.bind_some, Option.bind_fun_some]
  by_cases hs : (l.length : Int) > 3000
  · rw [decide_eq_true hs]; rfl
  · rw [decide_eq_false hs]
    have h1 := split_eq l (by omega) (k + 400) (by omega)
    have h2 := refsplit_eq l (by omega) (k + 400) (by omega)
    have hlen : (encS (splitL l)).1.length ≤ l.length + 1 := by
      unfold splitL encS
      rw [List.length_map]
      split
      · have := refS_len l [] false false []; simp at this; omega
      · simp
    have h3 := texts_eq (encS (splitL l)).1 (by omega) (k + 400) (by omega)
    simp only [h1, h2, h3, cond_false, cond_true, Option.bind_some, beq_self_eq_true]
end Go.Proofs.Ytchlbajnmhffpaa.Aev
