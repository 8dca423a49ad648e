import Derived.Test.YtaehpfmnejeddaaGreatDoorF12
import Derived.Test.YtaehpfmnejeddaaGreatDoorKeyRow
import Derived.Test.YtaehpfmnejeddaaGreatDoorF5
import Derived.Test.YtaehpfmnejeddaaGreatDoorF6
import Derived.Test.YtaehpfmnejeddaaGreatDoorOpsPut

/- Rows that are the same. -/
namespace Go.Proofs.YtaehpfmnejeddaaGreatDoor.Aev
open Go
set_option linter.unusedVariables false
set_option linter.unusedSimpArgs false
set_option maxRecDepth 100000
theorem same_eq (a0 a1 a2 : Int) (a3 : ByteArray) (b0 b1 b2 : Int) (b3 : ByteArray) (k : Nat) : transomref04_Same.f k a0 a1 a2 a3 b0 b1 b2 b3 = some (decide (a0 = b0 ∧ a1 = b1 ∧ a2 = b2 ∧ a3 = b3)) := by
 simp only [transomref04_Same.f, transomref04_Same.c, cond_true, cond_false, if_b, decide_eq_true_eq, Bool.and_eq_true, Bool.or_eq_true, beq_iff_eq, bne_iff_ne, ne_eq, Bool.not_eq_true', Bool.not_eq_false', Bool.true_and, Bool.and_true, Bool.false_eq_true, if_false, if_true, true_and, and_true, Option.bind_some, Option.bind_none, Option.bind_fun_some, beq_eq_false_iff_ne, decide_eq_false_iff_not, toList_iff]
 have e : (a3.toList == b3.toList) = decide (a3 = b3) := by rw [Bool.eq_iff_iff, beq_iff_eq, decide_eq_true_iff, toList_iff]
 rw [e]
 by_cases h0 : a0 = b0 <;> by_cases h1 : a1 = b1 <;> by_cases h2 : a2 = b2 <;> simp [h0, h1, h2]
theorem v_ext {v w : V} : (v.1 = w.1 ∧ v.2.1 = w.2.1 ∧ v.2.2.1 = w.2.2.1 ∧ v.2.2.2.1 = w.2.2.2.1) ↔ v = w := by
 obtain ⟨a, b, c, d, ⟨⟩⟩ := v
 obtain ⟨a', b', c', d', ⟨⟩⟩ := w
 simp
theorem samerow_s0 (l m : List V) (hlen : l.length = m.length) (hl : l.length ≤ 9223372036854775807) : ∀ (j i : Nat), i + j = l.length → ∀ k, j < k → transomref04_SameRow.s0 k l m (i : Int) = some (decide (l.drop i = m.drop i)) := by
 intro j
 induction j with
 | zero =>
  intro i hi k hk
  obtain ⟨k, rfl⟩ : ∃ j, k = j + 1 := ⟨k - 1, by omega⟩
  have e : ¬ (i : Int) < (l.length : Int) := by omega
  rw [List.drop_eq_nil_of_le (show l.length ≤ i by omega), List.drop_eq_nil_of_le (show m.length ≤ i by omega)]
  simp [transomref04_SameRow.s0, transomref04_SameRow.s0c, e]
 | succ j ih =>
  intro i hi k hk
  obtain ⟨k, rfl⟩ : ∃ j, k = j + 1 := ⟨k - 1, by omega⟩
  have hlt : i < l.length := by omega
  have hlt2 : i < m.length := by omega
  have e0 : (i : Int) < (l.length : Int) := by omega
  have e0' : (i : Int) < (m.length : Int) := by omega
  have e1 : (0 : Int) ≤ (i : Int) := by omega
  have e2 : IntKind.wrap IntKind.i64 ((i : Int) + 1) = ((i + 1 : Nat) : Int) := by rw [i64w (by omega) (by omega)]; omega
  have := ih (i + 1) (by omega) k (by omega)
  simp only [transomref04_SameRow.s0, transomref04_SameRow.s0c, e0, e0', e1, e2, elem_at hlt, elem_at hlt2, same_eq, this, v_ext, decide_true, Bool.and_self, cond_true, Option.bind_some, Option.bind_fun_some, List.drop_eq_getElem_cons hlt, List.drop_eq_getElem_cons hlt2, List.cons.injEq]
  by_cases c : l[i] = m[i]
  ·simp [c]
  ·simp [c]
theorem samerow_eq (l m : List V) (hl : l.length ≤ 9223372036854775807) (k : Nat) (hk : l.length < k) : transomref04_SameRow.f k l m = some (decide (l = m)) := by
 simp only [transomref04_SameRow.f, transomref04_SameRow.c, Option.bind_fun_some]
 by_cases h : l.length = m.length
 ·have e : ((l.length : Int) != (m.length : Int)) = false := by rw [bne_eq_false_iff_eq]; omega
  rw [e]
  exact samerow_s0 l m h hl l.length 0 (by omega) k hk
 ·have e : ((l.length : Int) != (m.length : Int)) = true := by rw [bne_iff_ne]; omega
  rw [e, decide_eq_false (fun q => h (by rw [q]))]; rfl
end Go.Proofs.YtaehpfmnejeddaaGreatDoor.Aev

/- Rows, and lists of rows, that are the same: the program's and the document's ways. -/
namespace Go.Proofs.YtaehpfmnejeddaaGreatDoor.Aev
open Go
set_option linter.unusedVariables false
set_option linter.unusedSimpArgs false
set_option maxRecDepth 100000
theorem vsame_eq (v w : V) (k : Nat) : values_Same.f k v.1 v.2.1 v.2.2.1 v.2.2.2.1 w.1 w.2.1 w.2.2.1 w.2.2.2.1 = some (decide (v = w)) := by
 simp only [values_Same.f, values_Same.c]
 congr 1
 rw [Bool.eq_iff_iff]
 simp only [Bool.and_eq_true, beq_iff_eq, and_true, decide_eq_true_eq, toList_iff, v_ext]
def partS : List V → List V → Nat
 | v :: l, w :: m => if v = w then partS l m + 1 else 0
 | _, _ => 0
theorem first_s0 (l m : List V) (hl : l.length ≤ 9223372036854775807) : ∀ (j i : Nat), i ≤ l.length → l.length - i ≤ j → ∀ k, 3 * j + 3 < k → api_Value_81.s0 k l m (i : Int) = some (((i + partS (l.drop i) (m.drop i) : Nat)) : Int) := by
 intro j
 induction j with
 | zero =>
  intro i hi h2 k hk
  obtain ⟨k, rfl⟩ : ∃ j, k = j + 2 := ⟨k - 2, by omega⟩
  have e : ¬ (i : Int) < (l.length : Int) := by omega
  rw [List.drop_eq_nil_of_le (show l.length ≤ i by omega)]
  simp only [api_Value_81.s0, api_Value_81.s0c, api_Value_81.s1, api_Value_81.s1c, e, decide_false, cond_false, Option.bind_fun_some, partS, Nat.add_zero]
 | succ j ih =>
  intro i hi h2 k hk
  obtain ⟨k, rfl⟩ : ∃ j, k = j + 3 := ⟨k - 3, by omega⟩
  by_cases h : i < l.length
  ·have e0 : (i : Int) < (l.length : Int) := by omega
   by_cases h' : i < m.length
   ·have e0' : (i : Int) < (m.length : Int) := by omega
    have e1 : (0 : Int) ≤ (i : Int) := by omega
    have e2 : IntKind.wrap IntKind.i64 ((i : Int) + 1) = ((i + 1 : Nat) : Int) := by rw [i64w (by omega) (by omega)]; omega
    have := ih (i + 1) (by omega) (by omega) k (by omega)
    simp only [api_Value_81.s0, api_Value_81.s0c, api_Value_81.s1, api_Value_81.s1c, api_Value_81.s2, api_Value_81.s2c, e0, e0', e1, e2, elem_at h, elem_at h', vsame_eq, this, decide_true, Bool.and_self, cond_true, Option.bind_some, Option.bind_fun_some, List.drop_eq_getElem_cons h, List.drop_eq_getElem_cons h', partS]
    by_cases c : l[i] = m[i]
    ·rw [decide_eq_true c, cond_true, if_pos c, Nat.add_assoc, Nat.add_comm 1]
    ·rw [decide_eq_false c, cond_false, if_neg c]; rfl
   ·have e0' : ¬ (i : Int) < (m.length : Int) := by omega
    rw [List.drop_eq_nil_of_le (show m.length ≤ i by omega)]
    have : partS (l.drop i) [] = 0 := by cases l.drop i <;> rfl
    rw [this]
    simp only [api_Value_81.s0, api_Value_81.s0c, api_Value_81.s1, api_Value_81.s1c, e0, e0', decide_true, decide_false, cond_true, cond_false, Option.bind_fun_some, Nat.add_zero]
  ·have e : ¬ (i : Int) < (l.length : Int) := by omega
   rw [List.drop_eq_nil_of_le (show l.length ≤ i by omega)]
   simp only [api_Value_81.s0, api_Value_81.s0c, api_Value_81.s1, api_Value_81.s1c, e, decide_false, cond_false, Option.bind_fun_some, partS, Nat.add_zero]
theorem part_sameS : ∀ l m : List V, l.length = m.length → (partS l m = l.length ↔ l = m)
 | [], [], _ => by simp [partS]
 | v :: l, w :: m, h => by
  have := part_sameS l m (by simpa using h)
  simp only [partS, List.length_cons, List.cons.injEq]
  by_cases c : v = w
  ·rw [if_pos c, ← this]; simp only [c, true_and]; omega
  ·rw [if_neg c]; simp [c]
 | [], _ :: _, h => by simp at h
 | _ :: _, [], h => by simp at h
theorem rowsSame_eq (l m : List V) (hl : l.length ≤ 9223372036854775807) (k : Nat) (hk : 3 * l.length + 10 ≤ k) : rows_Same.f k l m = some (decide (l = m)) := by
 simp only [rows_Same.f, rows_Same.c, api_Value_81.f, api_Value_81.c, Option.bind_fun_some]
 by_cases h : l.length = m.length
 ·have e : ((l.length : Int) == (m.length : Int)) = true := by rw [beq_iff_eq]; omega
  have := first_s0 l m hl l.length 0 (by omega) (by omega) k (by omega)
  rw [List.drop_zero, List.drop_zero] at this
  have this : api_Value_81.s0 k l m 0 = _ := this
  rw [e, cond_true, this, Option.bind_some]
  congr 1
  rw [Bool.eq_iff_iff, beq_iff_eq, decide_eq_true_eq, ← part_sameS l m h]
  omega
 ·have e : ((l.length : Int) == (m.length : Int)) = false := by rw [beq_eq_false_iff_ne]; omega
  rw [e, decide_eq_false (fun q => h (by rw [q]))]; rfl
theorem refSame_eq (l m : List V) (hl : l.length ≤ 9223372036854775807) (k : Nat) (hk : l.length < k) : transomref06_Same.f k l m = some (decide (l = m)) := by
 simp only [transomref06_Same.f, transomref06_Same.c, samerow_eq l m hl k hk, Option.bind_some]
end Go.Proofs.YtaehpfmnejeddaaGreatDoor.Aev

/- Whether two ask the same: the program's and the document's ways. -/
namespace Go.Proofs.YtaehpfmnejeddaaGreatDoor.Aev
open Go
set_option linter.unusedVariables false
set_option linter.unusedSimpArgs false
set_option maxRecDepth 100000
theorem tl_dec (x y : ByteArray) : (x.toList == y.toList) = decide (x = y) := by rw [Bool.eq_iff_iff, beq_iff_eq, decide_eq_true_iff, toList_iff]
noncomputable def sameO (a b : Oq) : Bool :=
 decide (a.1 = b.1) && (decide (a.2.1 = b.2.1) && (decide (a.2.2.2.2.2.1 = b.2.2.2.2.2.1) && (decide (a.2.2.1 = b.2.2.1) && (decide (a.2.2.2.1 = b.2.2.2.1) && (decide (a.2.2.2.2.1 = b.2.2.2.2.1) &&
 (!decide (a.1 = 6) || (decide ((putC a.2.2.2.2.2.2.1).2 = 0) && (decide ((putC b.2.2.2.2.2.2.1).2 = 0) && decide ((putC a.2.2.2.2.2.2.1).1 = (putC b.2.2.2.2.2.2.1).1))))))))) 
theorem sameO_f {a b : Oq} (ha : FewO a) (hb : FewO b) (k : Nat) (hk : 9000 ≤ k) : ops_Same.f k a b = some (sameO a b) := by
 obtain ⟨k, rfl⟩ : ∃ q, k = q + 1 + 1 := ⟨k - 2, by omega⟩
 have w1 := ha.r1.1.1
 have w2 := ha.r2.1.1
 have w3 := ha.r3.1.1
 have r1 := rowsSame_eq a.2.2.1 b.2.2.1 (by omega) (k + 1 + 1) (by omega)
 have r2 := rowsSame_eq a.2.2.2.1 b.2.2.2.1 (by omega) (k + 1 + 1) (by omega)
 have r3 := rowsSame_eq a.2.2.2.2.1 b.2.2.2.2.1 (by omega) (k + 1 + 1) (by omega)
 have p1 := putC_f ha.ch k (by omega)
 have p2 := putC_f hb.ch k (by omega)
 have bd : ∀ x y : Int, (x != y) = !decide (x = y) := fun x y => by rw [Bool.eq_iff_iff]; simp
 have be : ∀ x y : Int, (x == y) = decide (x = y) := fun x y => by rw [Bool.eq_iff_iff]; simp
 simp only [ops_Same.f, ops_Same.c, ops_Same.s0, ops_Same.s0c, ops_Same.s1, ops_Same.s1c, r1, r2, r3, p1, p2, tl_dec, bd, be, Option.bind_some, Option.bind_fun_some]
 unfold sameO
 cases decide (a.1 = b.1) <;> cases decide (a.2.1 = b.2.1) <;> cases decide (a.2.2.2.2.2.1 = b.2.2.2.2.2.1) <;> cases decide (a.2.2.1 = b.2.2.1) <;> cases decide (a.2.2.2.1 = b.2.2.2.1) <;> cases decide (a.2.2.2.2.1 = b.2.2.2.2.1) <;> try rfl
 cases decide (a.1 = 6) <;> cases decide ((putC a.2.2.2.2.2.2.1).2 = 0) <;> cases decide ((putC b.2.2.2.2.2.2.1).2 = 0) <;> rfl
theorem rsameO_f {a b : Oq} (ha : FewO a) (hb : FewO b) (k : Nat) (hk : 9000 ≤ k) : transomref14_Same.f k a b = some (sameO a b) := by
 obtain ⟨k, rfl⟩ : ∃ q, k = q + 1 + 1 := ⟨k - 2, by omega⟩
 have w1 := ha.r1.1.1
 have w2 := ha.r2.1.1
 have w3 := ha.r3.1.1
 have r1 := refSame_eq a.2.2.1 b.2.2.1 (by omega) (k + 1 + 1) (by omega)
 have r2 := refSame_eq a.2.2.2.1 b.2.2.2.1 (by omega) (k + 1 + 1) (by omega)
 have r3 := refSame_eq a.2.2.2.2.1 b.2.2.2.2.1 (by omega) (k + 1 + 1) (by omega)
 have p1 := rputC_f ha.ch k (by omega)
 have p2 := rputC_f hb.ch k (by omega)
 have bd : ∀ x y : Int, (x != y) = !decide (x = y) := fun x y => by rw [Bool.eq_iff_iff]; simp
 have be : ∀ x y : Int, (x == y) = decide (x = y) := fun x y => by rw [Bool.eq_iff_iff]; simp
 simp only [transomref14_Same.f, transomref14_Same.c, transomref14_Same.s0, transomref14_Same.s0c, transomref14_Same.s1, transomref14_Same.s1c, r1, r2, r3, p1, p2, tl_dec, bd, be, Option.bind_some, Option.bind_fun_some]
 unfold sameO
 cases decide (a.1 = b.1) <;> cases decide (a.2.1 = b.2.1) <;> cases decide (a.2.2.2.2.2.1 = b.2.2.2.2.2.1) <;> cases decide (a.2.2.1 = b.2.2.1) <;> cases decide (a.2.2.2.1 = b.2.2.2.1) <;> cases decide (a.2.2.2.2.1 = b.2.2.2.2.1) <;> try rfl
 cases decide (a.1 = 6) <;> cases decide ((putC a.2.2.2.2.2.2.1).2 = 0) <;> cases decide ((putC b.2.2.2.2.2.2.1).2 = 0) <;> rfl
end Go.Proofs.YtaehpfmnejeddaaGreatDoor.Aev
