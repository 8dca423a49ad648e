
/- Rows of values that are not too many, and too great. -/
import Derived.Test.YtddlebbjaadbeaaGreatDoorF0
import Derived.Test.YtddlebbjaadbeaaGreatDoorBits
namespace Go.Proofs.YtddlebbjaadbeaaGreatDoor.Aev
open Go
set_option linter.unusedVariables false
set_option linter.unusedSimpArgs false
set_option maxRecDepth 100000
abbrev VT : Ty := Ty.pair (Ty.int IntKind.i64) (Ty.pair (Ty.int IntKind.i64) (Ty.pair (Ty.int IntKind.u64) (Ty.pair Ty.str Ty.unit)))
abbrev V : Type := Int × (Int × (Int × (ByteArray × Unit)))
theorem elem_at {l : List V} {i : Nat} (h : i < l.length) : elem VT l (i : Int) = l[i] := by
  simp [elem, List.getD, List.getElem?_eq_getElem h]
/-- values whose numbers are within bounds, and whose texts are not too long -/
def FewV (l : List V) : Prop := l.length ≤ 30 ∧ ∀ v ∈ l, v.2.2.2.1.size ≤ 2000 ∧ ∃ n : Nat, v.2.2.1 = (n : Int) ∧ n < 18446744073709551616
theorem few04 (a0 a1 a2 : Int) (s : ByteArray) (k : Nat) : transomlaw04_Few.f k a0 a1 a2 s = some (if s.size ≤ 2000 then 1 else 0) := by
  simp only [transomlaw04_Few.f, transomlaw04_Few.c, cond_true, cond_false, if_b, decide_eq_true_eq, Bool.and_eq_true, Bool.or_eq_true, beq_iff_eq, bne_iff_ne, ne_eq, Bool.not_eq_true', Bool.not_eq_false', Bool.true_and, Bool.and_true, Bool.false_eq_true, if_false, if_true, true_and, and_true, Option.bind_some, Option.bind_none, Option.bind_fun_some, beq_eq_false_iff_ne, decide_eq_false_iff_not, toList_iff]
  by_cases h : s.size ≤ 2000
  · rw [if_neg (by omega), if_pos h]
  · rw [if_pos (by omega), if_neg h]
theorem fit_v {l : List V} (h : Fit (.sl VT) l) (hf : l.length ≤ 30 ∧ ∀ v ∈ l, v.2.2.2.1.size ≤ 2000) : FewV l := by
  refine ⟨hf.1, fun v hv => ⟨hf.2 v hv, ?_⟩⟩
  obtain ⟨_, h2⟩ := h
  obtain ⟨_, _, h3, _⟩ := h2 v hv
  exact nat_of_u64 h3
end Go.Proofs.YtddlebbjaadbeaaGreatDoor.Aev
