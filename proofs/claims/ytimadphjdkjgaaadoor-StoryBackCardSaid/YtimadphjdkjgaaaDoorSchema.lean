import Derived.Test.YtimadphjdkjgaaaDoorF0
import Derived.Test.YtimadphjdkjgaaaDoorF1
import Derived.Test.YtimadphjdkjgaaaDoorNames
import Derived.Test.YtimadphjdkjgaaaDoorVals

/- Tables: whether a column, and a table, may be: the program's and the document's ways. -/
namespace Go.Proofs.YtimadphjdkjgaaaDoor.Aev
open Go
set_option linter.unusedVariables false
set_option linter.unusedSimpArgs false
set_option maxRecDepth 100000
abbrev C : Type := D_api_Col
theorem elem_c {l : List C} {i : Nat} (h : i < l.length) : elem T_api_Col l (i : Int) = l[i] := by
 simp [elem, List.getD, List.getElem?_eq_getElem h]
def fewB (l : List C) : Prop := ∀ c ∈ l, c.1.size ≤ 500 ∧ c.2.2.2.1.2.2.2.1.size ≤ 2000
instance (l : List C) : Decidable (fewB l) := by unfold fewB; infer_instance
theorem few04' (a0 a1 a2 : Int) (s : ByteArray) (k : Nat) : transomlaw04_Few.f k a0 a1 a2 s = some (if s.size ≤ 2000 then 1 else 0) := by
 simp only [transomlaw04_Few.f, transomlaw04_Few.c, cond_true, cond_false, if_b, decide_eq_true_eq, Bool.and_eq_true, Bool.or_eq_true, beq_iff_eq, bne_iff_ne, ne_eq, Bool.not_eq_true', Bool.not_eq_false', Bool.true_and, Bool.and_true, Bool.false_eq_true, if_false, if_true, true_and, and_true, os, Option.bind_none, ofs, beq_eq_false_iff_ne, decide_eq_false_iff_not, toList_iff]
 by_cases h : s.size ≤ 2000
 ·rw [if_neg (by omega), if_pos h]
 ·rw [if_pos (by omega), if_neg h]
theorem few09_s2 (l : List C) (nm : ByteArray) (a : Int) (hl : l.length ≤ 20) : ∀ (m i : Nat), i + m = l.length → ∀ k, 3 * m < k → transomlaw09_Few.s2 k (i : Int) nm a l = some (if fewB (l.drop i) then 1 else 0) := by
 intro m
 induction m with
 | zero =>
  intro i hi k hk
  obtain ⟨k, rfl⟩ : ∃ j, k = j + 1 := ⟨k - 1, by omega⟩
  have e : ¬ (i : Int) < (l.length : Int) := by omega
  rw [List.drop_eq_nil_of_le (by omega)]
  simp [transomlaw09_Few.s2, transomlaw09_Few.s2c, e, fewB]
 | succ m ih =>
  intro i hi k hk
  obtain ⟨k, rfl⟩ : ∃ j, k = j + 3 := ⟨k - 3, by omega⟩
  have hlt : i < l.length := by omega
  have e0 : (i : Int) < (l.length : Int) := by omega
  have e1 : (0 : Int) ≤ (i : Int) := by omega
  have e2 : IntKind.wrap IntKind.i64 ((i : Int) + 1) = ((i + 1 : Nat) : Int) := by rw [i64w (by omega) (by omega)]; omega
  have he := elem_c hlt
  have h1 := ih (i + 1) (by omega) k (by omega)
  have hd : fewB (l.drop i) ↔ (l[i].1.size ≤ 500 ∧ l[i].2.2.2.1.2.2.2.1.size ≤ 2000) ∧ fewB (l.drop (i + 1)) := by
   unfold fewB
   rw [List.drop_eq_getElem_cons hlt, List.forall_mem_cons]
  simp only [transomlaw09_Few.s2, transomlaw09_Few.s2c, transomlaw09_Few.s3, transomlaw09_Few.s3c, transomlaw09_Few.s4, transomlaw09_Few.s4c, e0, e1, e2, he, few04', h1, decide_true, Bool.and_self, cond_true, os, ofs]
  by_cases c1 : l[i].1.size ≤ 500
  ·have c1' : ¬ (l[i].1.size : Int) > 500 := by omega
   by_cases c2 : l[i].2.2.2.1.2.2.2.1.size ≤ 2000
   ·have : fewB (l.drop i) ↔ fewB (l.drop (i + 1)) := by rw [hd]; simp [c1, c2]
    simp only [c1', c2, decide_false, cond_false, if_true, this]; rfl
   ·have : ¬ fewB (l.drop i) := by rw [hd]; simp [c2]
    simp only [c1', c2, decide_false, cond_false, if_false, this]; rfl
  ·have c1' : (l[i].1.size : Int) > 500 := by omega
   have : ¬ fewB (l.drop i) := by rw [hd]; simp [c1]
   simp only [c1', decide_true, cond_true, if_false, this]
theorem few09 (nm : ByteArray) (a : Int) (l : List C) (k : Nat) (hk : 100 ≤ k) : transomlaw09_Few.f k nm a l = some (if l.length ≤ 20 ∧ nm.size ≤ 500 ∧ fewB l then 1 else 0) := by
 obtain ⟨k, rfl⟩ : ∃ j, k = j + 2 := ⟨k - 2, by omega⟩
 simp only [transomlaw09_Few.f, transomlaw09_Few.c, transomlaw09_Few.s0, transomlaw09_Few.s0c, transomlaw09_Few.s1, transomlaw09_Few.s1c, ofs]
 by_cases h : l.length ≤ 20
 ·have e : ¬ (l.length : Int) > 20 := by omega
  by_cases h2 : nm.size ≤ 500
  ·have e2 : ¬ (nm.size : Int) > 500 := by omega
   have h1 : ∀ k, 100 ≤ k + 2 → transomlaw09_Few.s2 k 0 nm a l = some (if fewB l then 1 else 0) := fun k hk => few09_s2 l nm a h l.length 0 (by omega) k (by omega)
   simp only [e, e2, h1 k hk, decide_false, cond_false, h, h2, true_and]
  ·have e2 : (nm.size : Int) > 500 := by omega
   simp only [e, e2, decide_false, decide_true, cond_false, cond_true, h, h2, true_and, false_and, if_false]
 ·have e : (l.length : Int) > 20 := by omega
  simp only [e, decide_true, cond_true, h, false_and, if_false]
/-! a column -/
/-! the columns' names -/
/-! a table -/
end Go.Proofs.YtimadphjdkjgaaaDoor.Aev
