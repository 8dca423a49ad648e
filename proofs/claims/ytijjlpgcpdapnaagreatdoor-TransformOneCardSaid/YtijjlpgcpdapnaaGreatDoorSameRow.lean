
/- Rows that are the same. -/
import Derived.Test.YtijjlpgcpdapnaaGreatDoorF9
import Derived.Test.YtijjlpgcpdapnaaGreatDoorFew
namespace Go.Proofs.YtijjlpgcpdapnaaGreatDoor.Aev
open Go
set_option linter.unusedVariables false
set_option linter.unusedSimpArgs false
set_option maxRecDepth 100000
theorem same_eq (a0 a1 a2 : Int) (a3 : ByteArray) (b0 b1 b2 : Int) (b3 : ByteArray) (k : Nat) : transomref04_Same.f k a0 a1 a2 a3 b0 b1 b2 b3 = some (decide (a0 = b0 ∧ a1 = b1 ∧ a2 = b2 ∧ a3 = b3)) := by
  simp only [transomref04_Same.f, transomref04_Same.c, cond_true, cond_false, if_b, decide_eq_true_eq, Bool.and_eq_true, Bool.or_eq_true, beq_iff_eq, bne_iff_ne, ne_eq, Bool.not_eq_true', Bool.not_eq_false', Bool.true_and, Bool.and_true, Bool.false_eq_true, if_false, if_true, true_and, and_true, Option.bind_some, Option.bind_none, Option.bind_fun_some, beq_eq_false_iff_ne, decide_eq_false_iff_not, toList_iff]
  have e : (a3.toList == b3.toList) = decide (a3 = b3) := by rw [Bool.eq_iff_iff, beq_iff_eq, decide_eq_true_iff, toList_iff]
  rw [e]
  by_cases h0 : a0 = b0 <;> by_cases h1 : a1 = b1 <;> by_cases h2 : a2 = b2 <;> simp [h0, h1, h2]
theorem v_ext {v w : V} : (v.1 = w.1 ∧ v.2.1 = w.2.1 ∧ v.2.2.1 = w.2.2.1 ∧ v.2.2.2.1 = w.2.2.2.1) ↔ v = w := by
  obtain ⟨a, b, c, d, ⟨⟩⟩ := v
  obtain ⟨a', b', c', d', ⟨⟩⟩ := w
  simp
theorem samerow_s0 (l m : List V) (hlen : l.length = m.length) (hl : l.length ≤ 9223372036854775807) : ∀ (j i : Nat), i + j = l.length → ∀ k, j < k → transomref04_SameRow.s0 k l m (i : Int) = some (decide (l.drop i = m.drop i)) := by
  intro j
  induction j with
  | zero =>
    intro i hi k hk
    obtain ⟨k, rfl⟩ : ∃ j, k = j + 1 := ⟨k - 1, by omega⟩
    have e : ¬ (i : Int) < (l.length : Int) := by omega
    rw [List.drop_eq_nil_of_le (show l.length ≤ i by omega), List.drop_eq_nil_of_le (show m.length ≤ i by omega)]
    simp [transomref04_SameRow.s0, transomref04_SameRow.s0c, e]
  | succ j ih =>
    intro i hi k hk
    obtain ⟨k, rfl⟩ : ∃ j, k = j + 1 := ⟨k - 1, by omega⟩
    have hlt : i < l.length := by omega
    have hlt2 : i < m.length := by omega
    have e0 : (i : Int) < (l.length : Int) := by omega
    have e0' : (i : Int) < (m.length : Int) := by omega
    have e1 : (0 : Int) ≤ (i : Int) := by omega
    have e2 : IntKind.wrap IntKind.i64 ((i : Int) + 1) = ((i + 1 : Nat) : Int) := by rw [i64w (by omega) (by omega)]; omega
    have := ih (i + 1) (by omega) k (by omega)
    simp only [transomref04_SameRow.s0, transomref04_SameRow.s0c, e0, e0', e1, e2, elem_at hlt, elem_at hlt2, same_eq, this, v_ext, decide_true, Bool.and_self, cond_true, Option.bind_some, Option.bind_fun_some, List.drop_eq_getElem_cons hlt, List.drop_eq_getElem_cons hlt2, List.cons.injEq]
    by_cases c : l[i] = m[i]
    · simp [c]
    · simp [c]
theorem samerow_eq (l m : List V) (hl : l.length ≤ 9223372036854775807) (k : Nat) (hk : l.length < k) : transomref04_SameRow.f k l m = some (decide (l = m)) := by
  simp only [transomref04_SameRow.f, transomref04_SameRow.c, Option.bind_fun_some]
  by_cases h : l.length = m.length
  · have e : ((l.length : Int) != (m.length : Int)) = false := by rw [bne_eq_false_iff_eq]; omega
    rw [e]
    exact samerow_s0 l m h hl l.length 0 (by omega) k hk
  · have e : ((l.length : Int) != (m.length : Int)) = true := by rw [bne_iff_ne]; omega
    rw [e, decide_eq_false (fun q => h (by rw [q]))]; rfl
end Go.Proofs.YtijjlpgcpdapnaaGreatDoor.Aev
