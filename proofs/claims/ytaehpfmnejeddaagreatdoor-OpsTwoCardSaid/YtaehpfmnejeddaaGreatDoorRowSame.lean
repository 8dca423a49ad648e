
/- Rows, and lists of rows, that are the same: the program's and the document's ways. -/
import Derived.Test.YtaehpfmnejeddaaGreatDoorF6
import Derived.Test.YtaehpfmnejeddaaGreatDoorF15
import Derived.Test.YtaehpfmnejeddaaGreatDoorF18
import Derived.Test.YtaehpfmnejeddaaGreatDoorSameRow
namespace Go.Proofs.YtaehpfmnejeddaaGreatDoor.Aev
open Go
set_option linter.unusedVariables false
set_option linter.unusedSimpArgs false
set_option maxRecDepth 100000
theorem vsame_eq (v w : V) (k : Nat) : values_Same.f k v.1 v.2.1 v.2.2.1 v.2.2.2.1 w.1 w.2.1 w.2.2.1 w.2.2.2.1 = some (decide (v = w)) := by
  simp only [values_Same.f, values_Same.c]
  congr 1
  rw [Bool.eq_iff_iff]
  simp only [Bool.and_eq_true, beq_iff_eq, and_true, decide_eq_true_eq, toList_iff, v_ext]
def partS : List V → List V → Nat
  | v :: l, w :: m => if v = w then partS l m + 1 else 0
  | _, _ => 0
theorem first_s0 (l m : List V) (hl : l.length ≤ 9223372036854775807) : ∀ (j i : Nat), i ≤ l.length → l.length - i ≤ j → ∀ k, 3 * j + 3 < k → api_Value_81.s0 k l m (i : Int) = some (((i + partS (l.drop i) (m.drop i) : Nat)) : Int) := by
  intro j
  induction j with
  | zero =>
    intro i hi h2 k hk
    obtain ⟨k, rfl⟩ : ∃ j, k = j + 2 := ⟨k - 2, by omega⟩
    have e : ¬ (i : Int) < (l.length : Int) := by omega
    rw [List.drop_eq_nil_of_le (show l.length ≤ i by omega)]
    simp only [api_Value_81.s0, api_Value_81.s0c, api_Value_81.s1, api_Value_81.s1c, e, decide_false, cond_false, Option.bind_fun_some, partS, Nat.add_zero]
  | succ j ih =>
    intro i hi h2 k hk
    obtain ⟨k, rfl⟩ : ∃ j, k = j + 3 := ⟨k - 3, by omega⟩
    by_cases h : i < l.length
    · have e0 : (i : Int) < (l.length : Int) := by omega
      by_cases h' : i < m.length
      · have e0' : (i : Int) < (m.length : Int) := by omega
        have e1 : (0 : Int) ≤ (i : Int) := by omega
        have e2 : IntKind.wrap IntKind.i64 ((i : Int) + 1) = ((i + 1 : Nat) : Int) := by rw [i64w (by omega) (by omega)]; omega
        have := ih (i + 1) (by omega) (by omega) k (by omega)
        simp only [api_Value_81.s0, api_Value_81.s0c, api_Value_81.s1, api_Value_81.s1c, api_Value_81.s2, api_Value_81.s2c, e0, e0', e1, e2, elem_at h, elem_at h', vsame_eq, this, decide_true, Bool.and_self, cond_true, Option.bind_some, Option.bind_fun_some, List.drop_eq_getElem_cons h, List.drop_eq_getElem_cons h', partS]
        by_cases c : l[i] = m[i]
        · rw [decide_eq_true c, cond_true, if_pos c, Nat.add_assoc, Nat.add_comm 1]
        · rw [decide_eq_false c, cond_false, if_neg c]; rfl
      · have e0' : ¬ (i : Int) < (m.length : Int) := by omega
        rw [List.drop_eq_nil_of_le (show m.length ≤ i by omega)]
        have : partS (l.drop i) [] = 0 := by cases l.drop i <;> rfl
        rw [this]
        simp only [api_Value_81.s0, api_Value_81.s0c, api_Value_81.s1, api_Value_81.s1c, e0, e0', decide_true, decide_false, cond_true, cond_false, Option.bind_fun_some, Nat.add_zero]
    · have e : ¬ (i : Int) < (l.length : Int) := by omega
      rw [List.drop_eq_nil_of_le (show l.length ≤ i by omega)]
      simp only [api_Value_81.s0, api_Value_81.s0c, api_Value_81.s1, api_Value_81.s1c, e, decide_false, cond_false, Option.bind_fun_some, partS, Nat.add_zero]
theorem part_sameS : ∀ l m : List V, l.length = m.length → (partS l m = l.length ↔ l = m)
  | [], [], _ => by simp [partS]
  | v :: l, w :: m, h => by
    have := part_sameS l m (by simpa using h)
    simp only [partS, List.length_cons, List.cons.injEq]
    by_cases c : v = w
    · rw [if_pos c, ← this]; simp only [c, true_and]; omega
    · rw [if_neg c]; simp [c]
  | [], _ :: _, h => by simp at h
  | _ :: _, [], h => by simp at h
theorem rowsSame_eq (l m : List V) (hl : l.length ≤ 9223372036854775807) (k : Nat) (hk : 3 * l.length + 10 ≤ k) : rows_Same.f k l m = some (decide (l = m)) := by
  simp only [rows_Same.f, rows_Same.c, api_Value_81.f, api_Value_81.c, Option.bind_fun_some]
  by_cases h : l.length = m.length
  · have e : ((l.length : Int) == (m.length : Int)) = true := by rw [beq_iff_eq]; omega
    have := first_s0 l m hl l.length 0 (by omega) (by omega) k (by omega)
    rw [List.drop_zero, List.drop_zero] at this
    have this : api_Value_81.s0 k l m 0 = _ := this
    rw [e, cond_true, this, Option.bind_some]
    congr 1
    rw [Bool.eq_iff_iff, beq_iff_eq, decide_eq_true_eq, ← part_sameS l m h]
    omega
  · have e : ((l.length : Int) == (m.length : Int)) = false := by rw [beq_eq_false_iff_ne]; omega
    rw [e, decide_eq_false (fun q => h (by rw [q]))]; rfl
theorem refSame_eq (l m : List V) (hl : l.length ≤ 9223372036854775807) (k : Nat) (hk : l.length < k) : transomref06_Same.f k l m = some (decide (l = m)) := by
  simp only [transomref06_Same.f, transomref06_Same.c, samerow_eq l m hl k hk, Option.bind_some]
theorem elem_r {l : List (List V)} {i : Nat} (h : i < l.length) : elem (Ty.sl T_api_Value) l (i : Int) = l[i] := by
  simp [elem, List.getD, List.getElem?_eq_getElem h]
theorem eqf_s0 (l m : List (List V)) (hlen : l.length = m.length) (hl : l.length ≤ 1000) (N : Nat) (hv : ∀ x ∈ l, x.length ≤ 9223372036854775807 ∧ x.length ≤ N) : ∀ (j i : Nat), i + j = l.length → ∀ k, j + 3 * N + 20 < k →
    api_Value_59.s0 k m l (l.length : Int) (i : Int) = some (decide (l.drop i = m.drop i)) := by
  intro j
  induction j with
  | zero =>
    intro i hi k hk
    obtain ⟨k, rfl⟩ : ∃ j, k = j + 1 := ⟨k - 1, by omega⟩
    have e : ¬ (i : Int) < (l.length : Int) := by omega
    rw [List.drop_eq_nil_of_le (show l.length ≤ i by omega), List.drop_eq_nil_of_le (show m.length ≤ i by omega)]
    simp [api_Value_59.s0, api_Value_59.s0c, e]
  | succ j ih =>
    intro i hi k hk
    obtain ⟨k, rfl⟩ : ∃ j, k = j + 1 := ⟨k - 1, by omega⟩
    have hlt : i < l.length := by omega
    have hlt2 : i < m.length := by omega
    have e0 : (i : Int) < (l.length : Int) := by omega
    have e0' : (i : Int) < (m.length : Int) := by omega
    have e1 : (0 : Int) ≤ (i : Int) := by omega
    have e2 : IntKind.wrap IntKind.i64 ((i : Int) + 1) = ((i + 1 : Nat) : Int) := by rw [i64w (by omega) (by omega)]; omega
    have h1 := ih (i + 1) (by omega) k (by omega)
    have hvi := hv _ (List.getElem_mem hlt)
    have h2 := rowsSame_eq l[i] m[i] hvi.1 k (by omega)
    simp only [api_Value_59.s0, api_Value_59.s0c, e0, e0', e1, e2, elem_r hlt, elem_r hlt2, h1, h2, decide_true, Bool.and_self, cond_true, Option.bind_some, Option.bind_fun_some, List.drop_eq_getElem_cons hlt, List.drop_eq_getElem_cons hlt2, List.cons.injEq]
    by_cases c : l[i] = m[i]
    · simp [c]
    · simp [c]
theorem replies_f (e : Int) (l : List (List V)) (e' : Int) (m : List (List V)) (hl : l.length ≤ 1000) (N : Nat) (hv : ∀ x ∈ l, x.length ≤ 9223372036854775807 ∧ x.length ≤ N) (k : Nat) (hk : 3 * N + 2000 ≤ k) : ops_Replies.f k e l e' m = some (decide (e = e' ∧ l = m)) := by
  simp only [ops_Replies.f, ops_Replies.c, api_Value_59.f, api_Value_59.c, Option.bind_fun_some]
  by_cases h0 : e = e'
  · by_cases h : l.length = m.length
    · have h1 := eqf_s0 l m h hl N hv l.length 0 (by omega) k (by omega)
      have h1' : api_Value_59.s0 k m l (l.length : Int) 0 = some (decide (l = m)) := by simpa using h1
      have e1 : ((l.length : Int) != (m.length : Int)) = false := by rw [bne_eq_false_iff_eq]; omega
      simp only [h0, beq_self_eq_true, cond_true, e1, cond_false, h1', true_and]
    · have e1 : ((l.length : Int) != (m.length : Int)) = true := by rw [bne_iff_ne]; omega
      have h2 : ¬ l = m := fun q => h (by rw [q])
      simp only [h0, beq_self_eq_true, cond_true, e1, h2, and_false, decide_false]
  · simp only [beq_eq_false_iff_ne.2 h0, cond_false, h0, false_and, decide_false]
theorem rall_s0 (l m : List (List V)) (hlen : l.length = m.length) (hl : l.length ≤ 1000) (N : Nat) (hv : ∀ x ∈ l, x.length ≤ 9223372036854775807 ∧ x.length ≤ N) : ∀ (j i : Nat), i + j = l.length → ∀ k, j + N + 20 < k →
    transomref06_All.s0 k l m (i : Int) = some (decide (l.drop i = m.drop i)) := by
  intro j
  induction j with
  | zero =>
    intro i hi k hk
    obtain ⟨k, rfl⟩ : ∃ j, k = j + 1 := ⟨k - 1, by omega⟩
    have e : ¬ (i : Int) < (l.length : Int) := by omega
    rw [List.drop_eq_nil_of_le (show l.length ≤ i by omega), List.drop_eq_nil_of_le (show m.length ≤ i by omega)]
    simp [transomref06_All.s0, transomref06_All.s0c, e]
  | succ j ih =>
    intro i hi k hk
    obtain ⟨k, rfl⟩ : ∃ j, k = j + 1 := ⟨k - 1, by omega⟩
    have hlt : i < l.length := by omega
    have hlt2 : i < m.length := by omega
    have e0 : (i : Int) < (l.length : Int) := by omega
    have e0' : (i : Int) < (m.length : Int) := by omega
    have e1 : (0 : Int) ≤ (i : Int) := by omega
    have e2 : IntKind.wrap IntKind.i64 ((i : Int) + 1) = ((i + 1 : Nat) : Int) := by rw [i64w (by omega) (by omega)]; omega
    have h1 := ih (i + 1) (by omega) k (by omega)
    have hvi := hv _ (List.getElem_mem hlt)
    have h2 := refSame_eq l[i] m[i] hvi.1 k (by omega)
    simp only [transomref06_All.s0, transomref06_All.s0c, e0, e0', e1, e2, elem_r hlt, elem_r hlt2, h1, h2, decide_true, Bool.and_self, cond_true, Option.bind_some, Option.bind_fun_some, List.drop_eq_getElem_cons hlt, List.drop_eq_getElem_cons hlt2, List.cons.injEq]
    by_cases c : l[i] = m[i]
    · simp [c]
    · simp [c]
theorem rall_f (l m : List (List V)) (hl : l.length ≤ 1000) (N : Nat) (hv : ∀ x ∈ l, x.length ≤ 9223372036854775807 ∧ x.length ≤ N) (k : Nat) (hk : N + 2000 ≤ k) : transomref06_All.f k l m = some (decide (l = m)) := by
  simp only [transomref06_All.f, transomref06_All.c, Option.bind_fun_some]
  by_cases h : l.length = m.length
  · have h1 := rall_s0 l m h hl N hv l.length 0 (by omega) k (by omega)
    have h1' : transomref06_All.s0 k l m 0 = some (decide (l = m)) := by simpa using h1
    have e1 : ((l.length : Int) != (m.length : Int)) = false := by rw [bne_eq_false_iff_eq]; omega
    simp only [e1, cond_false, h1']
  · have e1 : ((l.length : Int) != (m.length : Int)) = true := by rw [bne_iff_ne]; omega
    have h2 : ¬ l = m := fun q => h (by rw [q])
    simp only [e1, cond_true, h2, decide_false]
theorem rreplies_f (e : Int) (l : List (List V)) (e' : Int) (m : List (List V)) (hl : l.length ≤ 1000) (N : Nat) (hv : ∀ x ∈ l, x.length ≤ 9223372036854775807 ∧ x.length ≤ N) (k : Nat) (hk : N + 2000 ≤ k) : transomref13_Replies.f k e l e' m = some (decide (e = e' ∧ l = m)) := by
  simp only [transomref13_Replies.f, transomref13_Replies.c, rall_f l m hl N hv k hk, Option.bind_some]
  by_cases h0 : e = e'
  · simp only [h0, beq_self_eq_true, cond_true, true_and]
  · simp only [beq_eq_false_iff_ne.2 h0, cond_false, h0, false_and, decide_false]
end Go.Proofs.YtaehpfmnejeddaaGreatDoor.Aev
