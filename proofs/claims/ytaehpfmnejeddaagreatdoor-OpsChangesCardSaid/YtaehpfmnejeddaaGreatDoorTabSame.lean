
/- Tables that are the same. -/
import Derived.Test.YtaehpfmnejeddaaGreatDoorF10
import Derived.Test.YtaehpfmnejeddaaGreatDoorSchema
namespace Go.Proofs.YtaehpfmnejeddaaGreatDoor.Aev
open Go
set_option linter.unusedVariables false
set_option linter.unusedSimpArgs false
set_option maxRecDepth 100000
theorem samev_eq (a0 a1 a2 : Int) (a3 : ByteArray) (b0 b1 b2 : Int) (b3 : ByteArray) (k : Nat) : transomref04_Same.f k a0 a1 a2 a3 b0 b1 b2 b3 = some (decide (a0 = b0 ∧ a1 = b1 ∧ a2 = b2 ∧ a3 = b3)) := by
  simp only [transomref04_Same.f, transomref04_Same.c, cond_true, cond_false, if_b, decide_eq_true_eq, Bool.and_eq_true, Bool.or_eq_true, beq_iff_eq, bne_iff_ne, ne_eq, Bool.not_eq_true', Bool.not_eq_false', Bool.true_and, Bool.and_true, Bool.false_eq_true, if_false, if_true, true_and, and_true, Option.bind_some, Option.bind_none, Option.bind_fun_some, beq_eq_false_iff_ne, decide_eq_false_iff_not, toList_iff]
  have e : (a3.toList == b3.toList) = decide (a3 = b3) := by rw [Bool.eq_iff_iff, beq_iff_eq, decide_eq_true_iff, toList_iff]
  rw [e]
  by_cases h0 : a0 = b0 <;> by_cases h1 : a1 = b1 <;> by_cases h2 : a2 = b2 <;> simp [h0, h1, h2]
theorem samecol_refl (c : C) (k : Nat) : transomref09_SameCol.f k c.1 c.2.1 c.2.2.1 c.2.2.2.1.1 c.2.2.2.1.2.1 c.2.2.2.1.2.2.1 c.2.2.2.1.2.2.2.1 c.1 c.2.1 c.2.2.1 c.2.2.2.1.1 c.2.2.2.1.2.1 c.2.2.2.1.2.2.1 c.2.2.2.1.2.2.2.1 = some true := by
  simp only [transomref09_SameCol.f, transomref09_SameCol.c, beq_self_eq_true, cond_true, samev_eq, and_self, decide_true, Option.bind_some]
theorem samecols_s0 (l : List C) (hl : l.length ≤ 1000) : ∀ (m i : Nat), i + m = l.length → ∀ k, m < k → transomref09_SameCols.s0 k l l (i : Int) = some true := by
  intro m
  induction m with
  | zero =>
    intro i hi k hk
    obtain ⟨k, rfl⟩ : ∃ j, k = j + 1 := ⟨k - 1, by omega⟩
    have e : ¬ (i : Int) < (l.length : Int) := by omega
    simp only [transomref09_SameCols.s0, transomref09_SameCols.s0c, e, decide_false, cond_false]
  | succ m ih =>
    intro i hi k hk
    obtain ⟨k, rfl⟩ : ∃ j, k = j + 1 := ⟨k - 1, by omega⟩
    have hlt : i < l.length := by omega
    have e0 : (i : Int) < (l.length : Int) := by omega
    have e1 : (0 : Int) ≤ (i : Int) := by omega
    have e2 : IntKind.wrap IntKind.i64 ((i : Int) + 1) = ((i + 1 : Nat) : Int) := by rw [i64w (by omega) (by omega)]; omega
    have he := elem_c hlt
    have h1 := ih (i + 1) (by omega) k (by omega)
    simp only [transomref09_SameCols.s0, transomref09_SameCols.s0c, e0, e1, e2, he, h1, samecol_refl, decide_true, Bool.and_self, cond_true, Bool.not_true, cond_false, Option.bind_some, Option.bind_fun_some]
theorem same_refl (nm : ByteArray) (a : Int) (l : List C) (hl : l.length ≤ 1000) (k : Nat) (hk : 1100 ≤ k) : transomref09_Same.f k nm a l nm a l = some true := by
  have h := samecols_s0 l hl l.length 0 (by omega) k (by omega)
  have h' : transomref09_SameCols.s0 k l l 0 = some true := h
  simp only [transomref09_Same.f, transomref09_Same.c, transomref09_SameCols.f, transomref09_SameCols.c, beq_self_eq_true, bne_self_eq_false, cond_true, cond_false, h', Option.bind_some, Option.bind_fun_some]
end Go.Proofs.YtaehpfmnejeddaaGreatDoor.Aev
