
/- Whether two ask the same: the program's and the document's ways. -/
import Derived.Test.YtaehpfmnejeddaaGreatDoorF6
import Derived.Test.YtaehpfmnejeddaaGreatDoorF15
import Derived.Test.YtaehpfmnejeddaaGreatDoorOpsPut
import Derived.Test.YtaehpfmnejeddaaGreatDoorRowSame
namespace Go.Proofs.YtaehpfmnejeddaaGreatDoor.Aev
open Go
set_option linter.unusedVariables false
set_option linter.unusedSimpArgs false
set_option maxRecDepth 100000
theorem tl_dec (x y : ByteArray) : (x.toList == y.toList) = decide (x = y) := by rw [Bool.eq_iff_iff, beq_iff_eq, decide_eq_true_iff, toList_iff]
noncomputable def sameO (a b : Oq) : Bool :=
  decide (a.1 = b.1) && (decide (a.2.1 = b.2.1) && (decide (a.2.2.2.2.2.1 = b.2.2.2.2.2.1) && (decide (a.2.2.1 = b.2.2.1) && (decide (a.2.2.2.1 = b.2.2.2.1) && (decide (a.2.2.2.2.1 = b.2.2.2.2.1) &&
  (!decide (a.1 = 6) || (decide ((putC a.2.2.2.2.2.2.1).2 = 0) && (decide ((putC b.2.2.2.2.2.2.1).2 = 0) && decide ((putC a.2.2.2.2.2.2.1).1 = (putC b.2.2.2.2.2.2.1).1))))))))) 
theorem sameO_f {a b : Oq} (ha : FewO a) (hb : FewO b) (k : Nat) (hk : 9000 ≤ k) : ops_Same.f k a b = some (sameO a b) := by
  obtain ⟨k, rfl⟩ : ∃ q, k = q + 1 + 1 := ⟨k - 2, by omega⟩
  have w1 := ha.r1.1.1
  have w2 := ha.r2.1.1
  have w3 := ha.r3.1.1
  have r1 := rowsSame_eq a.2.2.1 b.2.2.1 (by omega) (k + 1 + 1) (by omega)
  have r2 := rowsSame_eq a.2.2.2.1 b.2.2.2.1 (by omega) (k + 1 + 1) (by omega)
  have r3 := rowsSame_eq a.2.2.2.2.1 b.2.2.2.2.1 (by omega) (k + 1 + 1) (by omega)
  have p1 := putC_f ha.ch k (by omega)
  have p2 := putC_f hb.ch k (by omega)
  have bd : ∀ x y : Int, (x != y) = !decide (x = y) := fun x y => by rw [Bool.eq_iff_iff]; simp
  have be : ∀ x y : Int, (x == y) = decide (x = y) := fun x y => by rw [Bool.eq_iff_iff]; simp
  simp only [ops_Same.f, ops_Same.c, ops_Same.s0, ops_Same.s0c, ops_Same.s1, ops_Same.s1c, r1, r2, r3, p1, p2, tl_dec, bd, be, Option.bind_some, Option.bind_fun_some]
  unfold sameO
  cases decide (a.1 = b.1) <;> cases decide (a.2.1 = b.2.1) <;> cases decide (a.2.2.2.2.2.1 = b.2.2.2.2.2.1) <;> cases decide (a.2.2.1 = b.2.2.1) <;> cases decide (a.2.2.2.1 = b.2.2.2.1) <;> cases decide (a.2.2.2.2.1 = b.2.2.2.2.1) <;> try rfl
  cases decide (a.1 = 6) <;> cases decide ((putC a.2.2.2.2.2.2.1).2 = 0) <;> cases decide ((putC b.2.2.2.2.2.2.1).2 = 0) <;> rfl
theorem rsameO_f {a b : Oq} (ha : FewO a) (hb : FewO b) (k : Nat) (hk : 9000 ≤ k) : transomref14_Same.f k a b = some (sameO a b) := by
  obtain ⟨k, rfl⟩ : ∃ q, k = q + 1 + 1 := ⟨k - 2, by omega⟩
  have w1 := ha.r1.1.1
  have w2 := ha.r2.1.1
  have w3 := ha.r3.1.1
  have r1 := refSame_eq a.2.2.1 b.2.2.1 (by omega) (k + 1 + 1) (by omega)
  have r2 := refSame_eq a.2.2.2.1 b.2.2.2.1 (by omega) (k + 1 + 1) (by omega)
  have r3 := refSame_eq a.2.2.2.2.1 b.2.2.2.2.1 (by omega) (k + 1 + 1) (by omega)
  have p1 := rputC_f ha.ch k (by omega)
  have p2 := rputC_f hb.ch k (by omega)
  have bd : ∀ x y : Int, (x != y) = !decide (x = y) := fun x y => by rw [Bool.eq_iff_iff]; simp
  have be : ∀ x y : Int, (x == y) = decide (x = y) := fun x y => by rw [Bool.eq_iff_iff]; simp
  simp only [transomref14_Same.f, transomref14_Same.c, transomref14_Same.s0, transomref14_Same.s0c, transomref14_Same.s1, transomref14_Same.s1c, r1, r2, r3, p1, p2, tl_dec, bd, be, Option.bind_some, Option.bind_fun_some]
  unfold sameO
  cases decide (a.1 = b.1) <;> cases decide (a.2.1 = b.2.1) <;> cases decide (a.2.2.2.2.2.1 = b.2.2.2.2.2.1) <;> cases decide (a.2.2.1 = b.2.2.1) <;> cases decide (a.2.2.2.1 = b.2.2.2.1) <;> cases decide (a.2.2.2.2.1 = b.2.2.2.2.1) <;> try rfl
  cases decide (a.1 = 6) <;> cases decide ((putC a.2.2.2.2.2.2.1).2 = 0) <;> cases decide ((putC b.2.2.2.2.2.2.1).2 = 0) <;> rfl
end Go.Proofs.YtaehpfmnejeddaaGreatDoor.Aev
