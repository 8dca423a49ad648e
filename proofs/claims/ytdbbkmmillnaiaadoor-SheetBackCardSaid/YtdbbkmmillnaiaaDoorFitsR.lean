
/- Rows and keys that fit a table: the document's ways. -/

import Derived.Test.YtdbbkmmillnaiaaDoorFits
namespace Go.Proofs.YtdbbkmmillnaiaaDoor.Aev
open Go
set_option linter.unusedVariables false
set_option linter.unusedSimpArgs false
set_option maxRecDepth 100000
theorem cols_kind : ∀ {l : List C}, colsS l = 0 → ∀ c ∈ l, c.2.1 ≠ 0
  | [], _, c, hc => by simp at hc
  | d :: l, h, c, hc => by
    simp only [colsS] at h
    split at h
    · rename_i h1; exact absurd h h1
    · rename_i h1
      rcases List.mem_cons.1 hc with rfl | hc
      · intro h0
        apply h1
        unfold colS
        split
        · assumption
        · rw [if_pos (by omega)]; decide
      · exact cols_kind h c hc
theorem tab_cols {nm : ByteArray} {a : Int} {cols : List C} (h : tabS nm a cols = 0) : colsS cols = 0 := by
  unfold tabS at h
  split at h
  · rename_i h1; exact absurd h h1
  · split at h
    · simp at h
    · split at h
      · simp at h
      · split at h
        · rename_i h1; exact absurd h h1
        · rename_i h1; simpa using h1
end Go.Proofs.YtdbbkmmillnaiaaDoor.Aev
