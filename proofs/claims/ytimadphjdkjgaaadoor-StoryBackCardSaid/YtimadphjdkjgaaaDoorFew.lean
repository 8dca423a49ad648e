import Derived.Test.YtimadphjdkjgaaaDoorF0
import Derived.Test.YtimadphjdkjgaaaDoorBits

/- Rows of values that are not too many, and too great. -/
namespace Go.Proofs.YtimadphjdkjgaaaDoor.Aev
open Go
set_option linter.unusedVariables false
set_option linter.unusedSimpArgs false
set_option maxRecDepth 100000
abbrev VT : Ty := Ty.pair (Ty.int IntKind.i64) (Ty.pair (Ty.int IntKind.i64) (Ty.pair (Ty.int IntKind.u64) (Ty.pair Ty.str Ty.unit)))
abbrev V : Type := Int × (Int × (Int × (ByteArray × Unit)))
theorem elem_at {l : List V} {i : Nat} (h : i < l.length) : elem VT l (i : Int) = l[i] := by
 simp [elem, List.getD, List.getElem?_eq_getElem h]
theorem few04 (a0 a1 a2 : Int) (s : ByteArray) (k : Nat) : transomlaw04_Few.f k a0 a1 a2 s = some (if s.size ≤ 2000 then 1 else 0) := by
 simp only [transomlaw04_Few.f, transomlaw04_Few.c, cond_true, cond_false, if_b, decide_eq_true_eq, Bool.and_eq_true, Bool.or_eq_true, beq_iff_eq, bne_iff_ne, ne_eq, Bool.not_eq_true', Bool.not_eq_false', Bool.true_and, Bool.and_true, Bool.false_eq_true, if_false, if_true, true_and, and_true, os, Option.bind_none, ofs, beq_eq_false_iff_ne, decide_eq_false_iff_not, toList_iff]
 by_cases h : s.size ≤ 2000
 ·rw [if_neg (by omega), if_pos h]
 ·rw [if_pos (by omega), if_neg h]
theorem few05_s0 (l : List V) : ∀ (m i : Nat), i + m = l.length → l.length ≤ 30 → ∀ k, m < k → transomlaw05_Few.s0 k l (i : Int) = some (if ∀ v ∈ l.drop i, v.2.2.2.1.size ≤ 2000 then 1 else 0) := by
 intro m
 induction m with
 | zero =>
  intro i hi hl k hk
  obtain ⟨k, rfl⟩ : ∃ j, k = j + 1 := ⟨k - 1, by omega⟩
  have e : ¬ (i : Int) < (l.length : Int) := by omega
  rw [List.drop_eq_nil_of_le (by omega)]
  simp [transomlaw05_Few.s0, transomlaw05_Few.s0c, e]
 | succ m ih =>
  intro i hi hl k hk
  obtain ⟨k, rfl⟩ : ∃ j, k = j + 1 := ⟨k - 1, by omega⟩
  have hlt : i < l.length := by omega
  have e0 : (i : Int) < (l.length : Int) := by omega
  have e1 : (0 : Int) ≤ (i : Int) := by omega
  have e2 : IntKind.wrap IntKind.i64 ((i : Int) + 1) = ((i + 1 : Nat) : Int) := by rw [i64w (by omega) (by omega)]; omega
  have hd : l.drop i = l[i] :: l.drop (i + 1) := List.drop_eq_getElem_cons hlt
  have he := elem_at hlt
  have := ih (i + 1) (by omega) hl k (by omega)
  simp only [transomlaw05_Few.s0, transomlaw05_Few.s0c, e0, e1, e2, he, few04, this, decide_true, Bool.and_self, cond_true, os, ofs, hd, List.forall_mem_cons]
  by_cases c : l[i].2.2.2.1.size ≤ 2000
  ·simp only [c, if_true, true_and]; rfl
  ·simp only [c, if_false, false_and]; rfl
theorem few05 (l : List V) (k : Nat) (hk : 40 ≤ k) : transomlaw05_Few.f k l = some (if l.length ≤ 30 ∧ ∀ v ∈ l, v.2.2.2.1.size ≤ 2000 then 1 else 0) := by
 simp only [transomlaw05_Few.f, transomlaw05_Few.c, ofs]
 by_cases h : l.length ≤ 30
 ·have e : ¬ (l.length : Int) > 30 := by omega
  have := few05_s0 l l.length 0 (by omega) h k (by omega)
  simp only [e, decide_false, cond_false]
  refine this.trans ?_
  simp only [List.drop_zero, h, true_and]
 ·have e : (l.length : Int) > 30 := by omega
  simp only [e, decide_true, cond_true]
  rw [if_neg (fun q => h q.1)]
end Go.Proofs.YtimadphjdkjgaaaDoor.Aev
