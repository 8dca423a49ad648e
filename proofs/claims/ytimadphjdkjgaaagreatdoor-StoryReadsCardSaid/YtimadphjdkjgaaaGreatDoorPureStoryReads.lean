import Derived.Test.YtimadphjdkjgaaaGreatDoorF13
import Derived.Test.YtimadphjdkjgaaaGreatDoorFew
import Derived.Test.YtimadphjdkjgaaaGreatDoorBa
import Derived.Test.YtimadphjdkjgaaaGreatDoorRdS
import Derived.Test.YtimadphjdkjgaaaGreatDoorF6

/- Rows that are the same. -/
namespace Go.Proofs.YtimadphjdkjgaaaGreatDoor.Aev
open Go
set_option linter.unusedVariables false
set_option linter.unusedSimpArgs false
set_option maxRecDepth 100000
theorem same_eq (a0 a1 a2 : Int) (a3 : ByteArray) (b0 b1 b2 : Int) (b3 : ByteArray) (k : Nat) : transomref04_Same.f k a0 a1 a2 a3 b0 b1 b2 b3 = some (decide (a0 = b0 ∧ a1 = b1 ∧ a2 = b2 ∧ a3 = b3)) := by
 simp only [transomref04_Same.f, transomref04_Same.c, cond_true, cond_false, if_b, decide_eq_true_eq, Bool.and_eq_true, Bool.or_eq_true, beq_iff_eq, bne_iff_ne, ne_eq, Bool.not_eq_true', Bool.not_eq_false', Bool.true_and, Bool.and_true, Bool.false_eq_true, if_false, if_true, true_and, and_true, Option.bind_some, Option.bind_none, Option.bind_fun_some, beq_eq_false_iff_ne, decide_eq_false_iff_not, toList_iff]
 have e : (a3.toList == b3.toList) = decide (a3 = b3) := by rw [Bool.eq_iff_iff, beq_iff_eq, decide_eq_true_iff, toList_iff]
 rw [e]
 by_cases h0 : a0 = b0 <;> by_cases h1 : a1 = b1 <;> by_cases h2 : a2 = b2 <;> simp [h0, h1, h2]
theorem v_ext {v w : V} : (v.1 = w.1 ∧ v.2.1 = w.2.1 ∧ v.2.2.1 = w.2.2.1 ∧ v.2.2.2.1 = w.2.2.2.1) ↔ v = w := by
 obtain ⟨a, b, c, d, ⟨⟩⟩ := v
 obtain ⟨a', b', c', d', ⟨⟩⟩ := w
 simp
theorem samerow_s0 (l m : List V) (hlen : l.length = m.length) (hl : l.length ≤ 9223372036854775807) : ∀ (j i : Nat), i + j = l.length → ∀ k, j < k → transomref04_SameRow.s0 k l m (i : Int) = some (decide (l.drop i = m.drop i)) := by
 intro j
 induction j with
 | zero =>
  intro i hi k hk
  obtain ⟨k, rfl⟩ : ∃ j, k = j + 1 := ⟨k - 1, by omega⟩
  have e : ¬ (i : Int) < (l.length : Int) := by omega
  rw [List.drop_eq_nil_of_le (show l.length ≤ i by omega), List.drop_eq_nil_of_le (show m.length ≤ i by omega)]
  simp [transomref04_SameRow.s0, transomref04_SameRow.s0c, e]
 | succ j ih =>
  intro i hi k hk
  obtain ⟨k, rfl⟩ : ∃ j, k = j + 1 := ⟨k - 1, by omega⟩
  have hlt : i < l.length := by omega
  have hlt2 : i < m.length := by omega
  have e0 : (i : Int) < (l.length : Int) := by omega
  have e0' : (i : Int) < (m.length : Int) := by omega
  have e1 : (0 : Int) ≤ (i : Int) := by omega
  have e2 : IntKind.wrap IntKind.i64 ((i : Int) + 1) = ((i + 1 : Nat) : Int) := by rw [i64w (by omega) (by omega)]; omega
  have := ih (i + 1) (by omega) k (by omega)
  simp only [transomref04_SameRow.s0, transomref04_SameRow.s0c, e0, e0', e1, e2, elem_at hlt, elem_at hlt2, same_eq, this, v_ext, decide_true, Bool.and_self, cond_true, Option.bind_some, Option.bind_fun_some, List.drop_eq_getElem_cons hlt, List.drop_eq_getElem_cons hlt2, List.cons.injEq]
  by_cases c : l[i] = m[i]
  ·simp [c]
  ·simp [c]
theorem samerow_eq (l m : List V) (hl : l.length ≤ 9223372036854775807) (k : Nat) (hk : l.length < k) : transomref04_SameRow.f k l m = some (decide (l = m)) := by
 simp only [transomref04_SameRow.f, transomref04_SameRow.c, Option.bind_fun_some]
 by_cases h : l.length = m.length
 ·have e : ((l.length : Int) != (m.length : Int)) = false := by rw [bne_eq_false_iff_eq]; omega
  rw [e]
  exact samerow_s0 l m h hl l.length 0 (by omega) k hk
 ·have e : ((l.length : Int) != (m.length : Int)) = true := by rw [bne_iff_ne]; omega
  rw [e, decide_eq_false (fun q => h (by rw [q]))]; rfl
end Go.Proofs.YtimadphjdkjgaaaGreatDoor.Aev

/- Tables that are the same. -/
namespace Go.Proofs.YtimadphjdkjgaaaGreatDoor.Aev
open Go
set_option linter.unusedVariables false
set_option linter.unusedSimpArgs false
set_option maxRecDepth 100000
theorem samev_eq (a0 a1 a2 : Int) (a3 : ByteArray) (b0 b1 b2 : Int) (b3 : ByteArray) (k : Nat) : transomref04_Same.f k a0 a1 a2 a3 b0 b1 b2 b3 = some (decide (a0 = b0 ∧ a1 = b1 ∧ a2 = b2 ∧ a3 = b3)) := by
 simp only [transomref04_Same.f, transomref04_Same.c, cond_true, cond_false, if_b, decide_eq_true_eq, Bool.and_eq_true, Bool.or_eq_true, beq_iff_eq, bne_iff_ne, ne_eq, Bool.not_eq_true', Bool.not_eq_false', Bool.true_and, Bool.and_true, Bool.false_eq_true, if_false, if_true, true_and, and_true, Option.bind_some, Option.bind_none, Option.bind_fun_some, beq_eq_false_iff_ne, decide_eq_false_iff_not, toList_iff]
 have e : (a3.toList == b3.toList) = decide (a3 = b3) := by rw [Bool.eq_iff_iff, beq_iff_eq, decide_eq_true_iff, toList_iff]
 rw [e]
 by_cases h0 : a0 = b0 <;> by_cases h1 : a1 = b1 <;> by_cases h2 : a2 = b2 <;> simp [h0, h1, h2]
theorem samecol_refl (c : C) (k : Nat) : transomref09_SameCol.f k c.1 c.2.1 c.2.2.1 c.2.2.2.1.1 c.2.2.2.1.2.1 c.2.2.2.1.2.2.1 c.2.2.2.1.2.2.2.1 c.1 c.2.1 c.2.2.1 c.2.2.2.1.1 c.2.2.2.1.2.1 c.2.2.2.1.2.2.1 c.2.2.2.1.2.2.2.1 = some true := by
 simp only [transomref09_SameCol.f, transomref09_SameCol.c, beq_self_eq_true, cond_true, samev_eq, and_self, decide_true, Option.bind_some]
theorem samecols_s0 (l : List C) (hl : l.length ≤ 1000) : ∀ (m i : Nat), i + m = l.length → ∀ k, m < k → transomref09_SameCols.s0 k l l (i : Int) = some true := by
 intro m
 induction m with
 | zero =>
  intro i hi k hk
  obtain ⟨k, rfl⟩ : ∃ j, k = j + 1 := ⟨k - 1, by omega⟩
  have e : ¬ (i : Int) < (l.length : Int) := by omega
  simp only [transomref09_SameCols.s0, transomref09_SameCols.s0c, e, decide_false, cond_false]
 | succ m ih =>
  intro i hi k hk
  obtain ⟨k, rfl⟩ : ∃ j, k = j + 1 := ⟨k - 1, by omega⟩
  have hlt : i < l.length := by omega
  have e0 : (i : Int) < (l.length : Int) := by omega
  have e1 : (0 : Int) ≤ (i : Int) := by omega
  have e2 : IntKind.wrap IntKind.i64 ((i : Int) + 1) = ((i + 1 : Nat) : Int) := by rw [i64w (by omega) (by omega)]; omega
  have he := elem_c hlt
  have h1 := ih (i + 1) (by omega) k (by omega)
  simp only [transomref09_SameCols.s0, transomref09_SameCols.s0c, e0, e1, e2, he, h1, samecol_refl, decide_true, Bool.and_self, cond_true, Bool.not_true, cond_false, Option.bind_some, Option.bind_fun_some]
theorem same_refl (nm : ByteArray) (a : Int) (l : List C) (hl : l.length ≤ 1000) (k : Nat) (hk : 1100 ≤ k) : transomref09_Same.f k nm a l nm a l = some true := by
 have h := samecols_s0 l hl l.length 0 (by omega) k (by omega)
 have h' : transomref09_SameCols.s0 k l l 0 = some true := h
 simp only [transomref09_Same.f, transomref09_Same.c, transomref09_SameCols.f, transomref09_SameCols.c, beq_self_eq_true, bne_self_eq_false, cond_true, cond_false, h', Option.bind_some, Option.bind_fun_some]
end Go.Proofs.YtimadphjdkjgaaaGreatDoor.Aev

/- A step is the same as itself. -/
namespace Go.Proofs.YtimadphjdkjgaaaGreatDoor.Aev
open Go
set_option linter.unusedVariables false
set_option linter.unusedSimpArgs false
set_option maxRecDepth 100000
theorem samech_refl (c : Ch) (h1 : c.2.2.2.2.2.2.2.1.length ≤ 1000) (h2 : c.2.2.2.2.2.2.2.2.2.1.2.2.1.length ≤ 1000) (k : Nat) (hk : 3000 ≤ k) : transomref14_SameChange.f k c c = some true := by
 have t' := texts_eq c.2.2.2.2.2.2.2.1 (by omega) k (by omega)
 have s1 := samecol_refl c.2.2.2.2.2.2.2.2.1 k
 have s2 := same_refl c.2.2.2.2.2.2.2.2.2.1.1 c.2.2.2.2.2.2.2.2.2.1.2.1 c.2.2.2.2.2.2.2.2.2.1.2.2.1 h2 k (by omega)
 simp only [transomref14_SameChange.f, transomref14_SameChange.c, beq_self_eq_true, bne_self_eq_false, cond_true, cond_false, t', s1, s2, Option.bind_some, Option.bind_fun_some]
theorem samerow_refl (l : List V) (h : l.length ≤ 8) (k : Nat) (hk : 100 ≤ k) : transomref06_Same.f k l l = some true := by
 have := samerow_eq l l (by omega) k (by omega)
 simp only [transomref06_Same.f, transomref06_Same.c, this, decide_true, Option.bind_some]
theorem same_st {s : Sp} (h : SmallS s) (k : Nat) (hk : 3000 ≤ k) : transomlaw37_Same.f k s s = some 1 := by
 have r1 := samerow_refl _ h.row k (by omega)
 have r2 := samerow_refl _ h.lo k (by omega)
 have r3 := samerow_refl _ h.hi k (by omega)
 have c := samech_refl _ h.ch.1 h.ch.2 k hk
 simp only [transomlaw37_Same.f, transomlaw37_Same.c, beq_self_eq_true, bne_self_eq_false, Bool.not_true, cond_true, cond_false, r1, r2, r3, c, Option.bind_some, Option.bind_fun_some]
end Go.Proofs.YtimadphjdkjgaaaGreatDoor.Aev

/- StoryReads: the step that any line is, or the error: what the document says. For every input; no conditions. -/
namespace Go.Proofs.YtimadphjdkjgaaaGreatDoor.Aev
open Go
set_option linter.unusedVariables false
set_option linter.unusedSimpArgs false
set_option maxRecDepth 100000
theorem awake_all (k : Nat) : transomlaw37_awake.f (k + 400) = some true := by kernel_rfl
theorem Pure.StoryReads (x0 : ByteArray) (h0 : Fit .str x0) : ∃ k, transomlaw37_StoryReads.f k x0 = some true := by
 obtain ⟨k, hk⟩ : ∃ k, k = 17000000 := ⟨_, rfl⟩
 refine ⟨k + 2, ?_⟩
 have aw : transomlaw37_awake.f (k + 2) = some true := by
  obtain ⟨q, hq⟩ : ∃ q, k + 2 = q + 400 := ⟨k + 2 - 400, by omega⟩
  rw [hq]; exact awake_all q
 rw [ba_of x0]
 generalize x0.data.toList = l
 simp only [transomlaw37_StoryReads.f, transomlaw37_StoryReads.c, ba_size, aw, Option.bind_some, Option.bind_fun_some]
 by_cases hs : (l.length : Int) > 2000
 ·rw [decide_eq_true hs]; rfl
 ·obtain ⟨t, e, h1, _, _, h2⟩ := read_both l (by omega)
  obtain ⟨a, b⟩ := h2 (k + 2) (by omega)
  have c := same_st h1 (k + 2) (by omega)
  rw [decide_eq_false hs]
  simp only [a, b, c, beq_self_eq_true, cond_true, cond_false, Option.bind_some, Option.bind_fun_some]
end Go.Proofs.YtimadphjdkjgaaaGreatDoor.Aev
