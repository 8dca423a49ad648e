/- WordsQuotes: a text in quotes, and read again, is what the document says. For every input; no conditions. -/
import Derived.Test.YtchlbajnmhffpaaF6
import Derived.Test.YtchlbajnmhffpaaF12
import Derived.Test.YtchlbajnmhffpaaWUnqR
namespace Go.Proofs.Ytchlbajnmhffpaa.Aev
open Go
set_option linter.unusedVariables false
set_option linter.unusedSimpArgs false
set_option maxRecDepth 100000
theorem awake_all (k : Nat) : transomlaw36_awake.f (k + 400) = some true := by kernel_rfl
theorem Pure.WordsQuotes (x0 : ByteArray) (h0 : Fit .str x0) : ∃ k, transomlaw36_WordsQuotes.f k x0 = some true := by
  obtain ⟨k, hk, e⟩ : ∃ k, 9000000 ≤ k ∧ 9000400 = k + 400 := ⟨9000000, Nat.le_refl _, rfl⟩
  refine ⟨9000400, ?_⟩
  rw [e]
  rw [ba_of x0]
  generalize x0.data.toList = l
  simp only [transomlaw36_WordsQuotes.f, transomlaw36_WordsQuotes.c, ba_size, awake_all, Option.bind_some, Option.bind_fun_some]
  by_cases hs : (l.length : Int) > 2000
  · rw [decide_eq_true hs]; rfl
  · rw [decide_eq_false hs]
    have hq : (quoteL l).length ≤ 4 * l.length + 2 := by have := flatq_len l; unfold quoteL; rw [List.length_cons, List.length_append, List.length_singleton]; omega
    have h1 := quote_eq l (by omega) (k + 400) (by omega)
    have h2 := refquote_eq l (by omega) (k + 400) (by omega)
    have h3 := unquote_eq l (by omega) (k + 400) (by omega)
    have h4 := refunquote_eq l (by omega) (k + 400) (by omega)
    have h5 := unquote_eq (quoteL l) (by omega) (k + 400) (by omega)
    rw [unquote_quote] at h5
    have h5 : words_Unquote.f (k + 400) (mkW (quoteL l)) = some (mkW l, 0) := h5
    simp only [h1, h2, h3, h4, h5, cond_false, cond_true, Option.bind_some, beq_self_eq_true]
end Go.Proofs.Ytchlbajnmhffpaa.Aev
