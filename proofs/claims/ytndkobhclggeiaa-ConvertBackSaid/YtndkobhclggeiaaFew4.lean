/- Values that are the same; texts not too long. -/
import Derived.Test.YtndkobhclggeiaaF0
import Derived.Test.YtndkobhclggeiaaF13
import Derived.Test.YtndkobhclggeiaaBits
namespace Go.Proofs.Ytndkobhclggeiaa.Aev
open Go
set_option linter.unusedVariables false
set_option linter.unusedSimpArgs false
set_option maxRecDepth 100000
abbrev VT : Ty := Ty.pair (Ty.int IntKind.i64) (Ty.pair (Ty.int IntKind.i64) (Ty.pair (Ty.int IntKind.u64) (Ty.pair Ty.str Ty.unit)))
abbrev V : Type := Int × (Int × (Int × (ByteArray × Unit)))
theorem elem_at {l : List V} {i : Nat} (h : i < l.length) : elem VT l (i : Int) = l[i] := by
  simp [elem, List.getD, List.getElem?_eq_getElem h]
theorem few04 (a0 a1 a2 : Int) (s : ByteArray) (k : Nat) : transomlaw04_Few.f k a0 a1 a2 s = some (if s.size ≤ 2000 then 1 else 0) := by
  simp only [transomlaw04_Few.f, transomlaw04_Few.c, cond_true, cond_false, if_b, decide_eq_true_eq, Bool.and_eq_true, Bool.or_eq_true, beq_iff_eq, bne_iff_ne, ne_eq, Bool.not_eq_true', Bool.not_eq_false', Bool.true_and, Bool.and_true, Bool.false_eq_true, if_false, if_true, true_and, and_true, Option.bind_some, Option.bind_none, Option.bind_fun_some, beq_eq_false_iff_ne, decide_eq_false_iff_not, toList_iff]
  by_cases h : s.size ≤ 2000
  · rw [if_neg (by omega), if_pos h]
  · rw [if_pos (by omega), if_neg h]
theorem same_eq (a0 a1 a2 : Int) (a3 : ByteArray) (b0 b1 b2 : Int) (b3 : ByteArray) (k : Nat) : transomref04_Same.f k a0 a1 a2 a3 b0 b1 b2 b3 = some (decide (a0 = b0 ∧ a1 = b1 ∧ a2 = b2 ∧ a3 = b3)) := by
  simp only [transomref04_Same.f, transomref04_Same.c, cond_true, cond_false, if_b, decide_eq_true_eq, Bool.and_eq_true, Bool.or_eq_true, beq_iff_eq, bne_iff_ne, ne_eq, Bool.not_eq_true', Bool.not_eq_false', Bool.true_and, Bool.and_true, Bool.false_eq_true, if_false, if_true, true_and, and_true, Option.bind_some, Option.bind_none, Option.bind_fun_some, beq_eq_false_iff_ne, decide_eq_false_iff_not, toList_iff]
  have e : (a3.toList == b3.toList) = decide (a3 = b3) := by rw [Bool.eq_iff_iff, beq_iff_eq, decide_eq_true_iff, toList_iff]
  rw [e]
  by_cases h0 : a0 = b0 <;> by_cases h1 : a1 = b1 <;> by_cases h2 : a2 = b2 <;> simp [h0, h1, h2]
theorem v_ext {v w : V} : (v.1 = w.1 ∧ v.2.1 = w.2.1 ∧ v.2.2.1 = w.2.2.1 ∧ v.2.2.2.1 = w.2.2.2.1) ↔ v = w := by
  obtain ⟨a, b, c, d, ⟨⟩⟩ := v
  obtain ⟨a', b', c', d', ⟨⟩⟩ := w
  simp
end Go.Proofs.Ytndkobhclggeiaa.Aev
