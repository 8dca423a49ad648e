/- RowsTwo: whether two rows are the same, and which comes first, is as the document says. For every input; no conditions. -/
import Derived.Test.YtlclhjdfbkenfaaF5
import Derived.Test.YtlclhjdfbkenfaaF6
import Derived.Test.YtlclhjdfbkenfaaF7
import Derived.Test.YtlclhjdfbkenfaaF8
import Derived.Test.YtlclhjdfbkenfaaF15
import Derived.Test.YtlclhjdfbkenfaaF20
import Derived.Test.YtlclhjdfbkenfaaF21
import Derived.Test.YtlclhjdfbkenfaaSameRow
import Derived.Test.YtlclhjdfbkenfaaCmp
namespace Go.Proofs.Ytlclhjdfbkenfaa.Aev
open Go
set_option linter.unusedVariables false
set_option linter.unusedSimpArgs false
set_option maxRecDepth 100000
theorem awake_all (k : Nat) : transomlaw06_awake.f (k + 60) = some true := by kernel_rfl
theorem refSame_eq (l m : List V) (hl : l.length ≤ 1000) (k : Nat) (hk : 2000 ≤ k) : transomref06_Same.f k l m = some (decide (l = m)) := by
  simp only [transomref06_Same.f, transomref06_Same.c, samerow_eq l m (by omega) k (by omega), Option.bind_some]
theorem refCmp_eq (l m : List V) (hl : BitsV l) (hm : BitsV m) (hll : l.length ≤ 1000) (hml : m.length ≤ 1000) (k : Nat) (hk : 4000 ≤ k) : transomref06_Cmp.f k l m = some (cmpL l m) := by
  simp only [transomref06_Cmp.f, transomref06_Cmp.c, cmprow_eq l m hl hm (by omega) (by omega) k (by omega), Option.bind_some]
theorem vsame_eq (v w : V) (k : Nat) : values_Same.f k v.1 v.2.1 v.2.2.1 v.2.2.2.1 w.1 w.2.1 w.2.2.1 w.2.2.2.1 = some (decide (v = w)) := by
  simp only [values_Same.f, values_Same.c]
  congr 1
  rw [Bool.eq_iff_iff]
  simp only [Bool.and_eq_true, beq_iff_eq, and_true, decide_eq_true_eq, toList_iff, v_ext]
/-- the first place where two rows part -/
def partL (f : V → V → Bool) : List V → List V → Nat
  | v :: l, w :: m => if f v w = true then partL f l m + 1 else 0
  | _, _ => 0
theorem partL_le (f : V → V → Bool) : ∀ l m : List V, partL f l m ≤ l.length ∧ partL f l m ≤ m.length
  | [], _ => by simp [partL]
  | _ :: _, [] => by simp [partL]
  | v :: l, w :: m => by
    have := partL_le f l m
    simp only [partL]
    split
    · simp; omega
    · simp
theorem first0_s0 (l m : List V) (hl : l.length ≤ 1000) : ∀ (j i : Nat), i ≤ l.length → l.length - i ≤ j → ∀ k, 3 * j + 3 < k → api_Value.s0_0 k l m (i : Int) = some (((i + partL (fun v w => decide (v = w)) (l.drop i) (m.drop i) : Nat)) : Int) := by
  intro j
  induction j with
  | zero =>
    intro i hi h2 k hk
    obtain ⟨k, rfl⟩ : ∃ j, k = j + 2 := ⟨k - 2, by omega⟩
    have e : ¬ (i : Int) < (l.length : Int) := by omega
    rw [List.drop_eq_nil_of_le (show l.length ≤ i by omega)]
    simp only [api_Value.s0_0, api_Value.s0_0c, api_Value.s1_0, api_Value.s1_0c, e, decide_false, cond_false, Option.bind_fun_some, partL, Nat.add_zero]
  | succ j ih =>
    intro i hi h2 k hk
    obtain ⟨k, rfl⟩ : ∃ j, k = j + 3 := ⟨k - 3, by omega⟩
    by_cases h : i < l.length
    · have e0 : (i : Int) < (l.length : Int) := by omega
      by_cases h' : i < m.length
      · have e0' : (i : Int) < (m.length : Int) := by omega
        have e1 : (0 : Int) ≤ (i : Int) := by omega
        have e2 : IntKind.wrap IntKind.i64 ((i : Int) + 1) = ((i + 1 : Nat) : Int) := by rw [i64w (by omega) (by omega)]; omega
        have := ih (i + 1) (by omega) (by omega) k (by omega)
        simp only [api_Value.s0_0, api_Value.s0_0c, api_Value.s1_0, api_Value.s1_0c, api_Value.s2_0, api_Value.s2_0c, e0, e0', e1, e2, elem_at h, elem_at h', vsame_eq, this, decide_true, Bool.and_self, cond_true, Option.bind_some, Option.bind_fun_some, List.drop_eq_getElem_cons h, List.drop_eq_getElem_cons h', partL]
        by_cases c : l[i] = m[i]
        · rw [decide_eq_true c, cond_true, if_pos rfl, Nat.add_assoc, Nat.add_comm 1]
        · rw [decide_eq_false c, cond_false, if_neg (by simp)]; rfl
      · have e0' : ¬ (i : Int) < (m.length : Int) := by omega
        rw [List.drop_eq_nil_of_le (show m.length ≤ i by omega)]
        have : partL (fun v w => decide (v = w)) (l.drop i) [] = 0 := by cases l.drop i <;> rfl
        rw [this]
        simp only [api_Value.s0_0, api_Value.s0_0c, api_Value.s1_0, api_Value.s1_0c, e0, e0', decide_true, decide_false, cond_true, cond_false, Option.bind_fun_some, Nat.add_zero]
    · have e : ¬ (i : Int) < (l.length : Int) := by omega
      rw [List.drop_eq_nil_of_le (show l.length ≤ i by omega)]
      simp only [api_Value.s0_0, api_Value.s0_0c, api_Value.s1_0, api_Value.s1_0c, e, decide_false, cond_false, Option.bind_fun_some, partL, Nat.add_zero]
theorem part_same : ∀ l m : List V, l.length = m.length → (partL (fun v w => decide (v = w)) l m = l.length ↔ l = m)
  | [], [], _ => by simp [partL]
  | v :: l, w :: m, h => by
    have := part_same l m (by simpa using h)
    simp only [partL, List.length_cons, List.cons.injEq, decide_eq_true_eq]
    by_cases c : v = w
    · rw [if_pos c, ← this]; simp only [c, true_and]; omega
    · rw [if_neg c]; simp [c]
  | [], _ :: _, h => by simp at h
  | _ :: _, [], h => by simp at h
theorem rowsSame_eq (l m : List V) (hl : l.length ≤ 1000) (k : Nat) (hk : 4000 ≤ k) : rows_Same.f k l m = some (decide (l = m)) := by
  simp only [rows_Same.f, rows_Same.c, api_Value.f0, api_Value.c0, Option.bind_fun_some]
  by_cases h : l.length = m.length
  · have e : ((l.length : Int) == (m.length : Int)) = true := by rw [beq_iff_eq]; omega
    have := first0_s0 l m hl l.length 0 (by omega) (by omega) k (by omega)
    rw [List.drop_zero, List.drop_zero] at this
    have this : api_Value.s0_0 k l m 0 = _ := this
    rw [e, cond_true, this, Option.bind_some]
    congr 1
    rw [Bool.eq_iff_iff, beq_iff_eq, decide_eq_true_eq, ← part_same l m h]
    omega
  · have e : ((l.length : Int) == (m.length : Int)) = false := by rw [beq_eq_false_iff_ne]; omega
    rw [e, decide_eq_false (fun q => h (by rw [q]))]; rfl
theorem vcmpV_eq (v w : V) {n m : Nat} (hn : v.2.2.1 = (n : Int)) (hn2 : n < 18446744073709551616) (hm : w.2.2.1 = (m : Int)) (hm2 : m < 18446744073709551616) (k : Nat) (hk : 5 ≤ k) :
    values_Cmp.f k v.1 v.2.1 v.2.2.1 v.2.2.2.1 w.1 w.2.1 w.2.2.1 w.2.2.2.1 = some (cV v w) := by
  rw [hn, hm, vcmp_eq _ _ _ _ _ _ _ _ hn2 hm2 k hk]
  unfold cV; rw [hn, hm]; rfl
theorem first1_s0 (l m : List V) (hlb : BitsV l) (hmb : BitsV m) (hl : l.length ≤ 1000) : ∀ (j i : Nat), i ≤ l.length → l.length - i ≤ j → ∀ k, 3 * j + 10 < k → api_Value.s0_1 k l m (i : Int) = some (((i + partL (fun v w => decide (cV v w = 0)) (l.drop i) (m.drop i) : Nat)) : Int) := by
  intro j
  induction j with
  | zero =>
    intro i hi h2 k hk
    obtain ⟨k, rfl⟩ : ∃ j, k = j + 2 := ⟨k - 2, by omega⟩
    have e : ¬ (i : Int) < (l.length : Int) := by omega
    rw [List.drop_eq_nil_of_le (show l.length ≤ i by omega)]
    simp only [api_Value.s0_1, api_Value.s0_1c, api_Value.s1_1, api_Value.s1_1c, e, decide_false, cond_false, Option.bind_fun_some, partL, Nat.add_zero]
  | succ j ih =>
    intro i hi h2 k hk
    obtain ⟨k, rfl⟩ : ∃ j, k = j + 3 := ⟨k - 3, by omega⟩
    by_cases h : i < l.length
    · have e0 : (i : Int) < (l.length : Int) := by omega
      by_cases h' : i < m.length
      · have e0' : (i : Int) < (m.length : Int) := by omega
        have e1 : (0 : Int) ≤ (i : Int) := by omega
        have e2 : IntKind.wrap IntKind.i64 ((i : Int) + 1) = ((i + 1 : Nat) : Int) := by rw [i64w (by omega) (by omega)]; omega
        obtain ⟨n1, hn1, hb1⟩ := hlb l[i] (List.getElem_mem h)
        obtain ⟨n2, hn2, hb2⟩ := hmb m[i] (List.getElem_mem h')
        have hc := vcmpV_eq l[i] m[i] hn1 hb1 hn2 hb2 (k + 2) (by omega)
        have := ih (i + 1) (by omega) (by omega) k (by omega)
        simp only [api_Value.s0_1, api_Value.s0_1c, api_Value.s1_1, api_Value.s1_1c, api_Value.s2_1, api_Value.s2_1c, rows_Cmp_1.f, rows_Cmp_1.c, e0, e0', e1, e2, elem_at h, elem_at h', hc, this, decide_true, Bool.and_self, cond_true, Option.bind_some, Option.bind_fun_some, List.drop_eq_getElem_cons h, List.drop_eq_getElem_cons h', partL]
        by_cases c : cV l[i] m[i] = 0
        · rw [beq_iff_eq.2 c, decide_eq_true c, cond_true, if_pos rfl, Nat.add_assoc, Nat.add_comm 1]
        · rw [beq_eq_false_iff_ne.2 c, decide_eq_false c, cond_false, if_neg (by simp)]; rfl
      · have e0' : ¬ (i : Int) < (m.length : Int) := by omega
        rw [List.drop_eq_nil_of_le (show m.length ≤ i by omega)]
        have : partL (fun v w => decide (cV v w = 0)) (l.drop i) [] = 0 := by cases l.drop i <;> rfl
        rw [this]
        simp only [api_Value.s0_1, api_Value.s0_1c, api_Value.s1_1, api_Value.s1_1c, e0, e0', decide_true, decide_false, cond_true, cond_false, Option.bind_fun_some, Nat.add_zero]
    · have e : ¬ (i : Int) < (l.length : Int) := by omega
      rw [List.drop_eq_nil_of_le (show l.length ≤ i by omega)]
      simp only [api_Value.s0_1, api_Value.s0_1c, api_Value.s1_1, api_Value.s1_1c, e, decide_false, cond_false, Option.bind_fun_some, partL, Nat.add_zero]
theorem part_cmp : ∀ l m : List V, cmpL l m = (if h : partL (fun v w => decide (cV v w = 0)) l m < l.length ∧ partL (fun v w => decide (cV v w = 0)) l m < m.length then cV (l[partL (fun v w => decide (cV v w = 0)) l m]'h.1) (m[partL (fun v w => decide (cV v w = 0)) l m]'h.2)
      else if partL (fun v w => decide (cV v w = 0)) l m < m.length then -1 else if partL (fun v w => decide (cV v w = 0)) l m < l.length then 1 else 0)
  | [], [] => by simp [cmpL, partL]
  | [], w :: m => by simp [cmpL, partL]
  | v :: l, [] => by simp [cmpL, partL]
  | v :: l, w :: m => by
    have ih := part_cmp l m
    by_cases c : cV v w = 0
    · simp only [cmpL, partL, c, decide_true, if_true, ne_eq, not_true_eq_false, if_false, List.length_cons, Nat.add_lt_add_iff_right, List.getElem_cons_succ]
      exact ih
    · simp only [cmpL, partL, c, decide_false, Bool.false_eq_true, if_false, ne_eq, not_false_eq_true, if_true, List.length_cons, Nat.zero_lt_succ, and_self, dif_pos, List.getElem_cons_zero]
theorem rowsCmp_eq (l m : List V) (hlb : BitsV l) (hmb : BitsV m) (hl : l.length ≤ 1000) (k : Nat) (hk : 4000 ≤ k) : rows_Cmp.f k l m = some (cmpL l m) := by
  obtain ⟨k, rfl⟩ : ∃ j, k = j + 1 := ⟨k - 1, by omega⟩
  have h1 := first1_s0 l m hlb hmb hl l.length 0 (by omega) (by omega) (k + 1) (by omega)
  rw [List.drop_zero, List.drop_zero, Nat.zero_add] at h1
  have h1 : api_Value.s0_1 (k + 1) l m 0 = _ := h1
  have hle := partL_le (fun v w => decide (cV v w = 0)) l m
  rw [part_cmp l m]
  simp only [rows_Cmp.f, rows_Cmp.c, api_Value.f1, api_Value.c1, Option.bind_fun_some, h1, Option.bind_some, rows_Cmp.s0, rows_Cmp.s0c]
  generalize partL (fun v w => decide (cV v w = 0)) l m = p at *
  by_cases c : p < l.length
  · have e : (p : Int) < (l.length : Int) := by omega
    by_cases d : p < m.length
    · have e' : (p : Int) < (m.length : Int) := by omega
      have e1 : (0 : Int) ≤ (p : Int) := by omega
      obtain ⟨n1, hn1, hb1⟩ := hlb l[p] (List.getElem_mem c)
      obtain ⟨n2, hn2, hb2⟩ := hmb m[p] (List.getElem_mem d)
      have hc := vcmpV_eq l[p] m[p] hn1 hb1 hn2 hb2 k (by omega)
      rw [dif_pos ⟨c, d⟩]
      simp only [e, e', e1, elem_at c, elem_at d, hc, decide_true, Bool.and_self, cond_true, Option.bind_some]
    · have e' : ¬ (p : Int) < (m.length : Int) := by omega
      rw [dif_neg (fun q => d q.2), if_neg d, if_pos c]
      simp only [e, e', decide_true, decide_false, cond_true, cond_false]
  · have e : ¬ (p : Int) < (l.length : Int) := by omega
    rw [dif_neg (fun q => c q.1), if_neg c]
    by_cases d : p < m.length
    · have e' : (p : Int) < (m.length : Int) := by omega
      rw [if_pos d]
      simp only [e, e', decide_true, decide_false, cond_true, cond_false]
    · have e' : ¬ (p : Int) < (m.length : Int) := by omega
      rw [if_neg d]
      simp only [e, e', decide_true, decide_false, cond_true, cond_false]
theorem few_bits {l : List V} (h : FewV l) : BitsV l := fun v hv => (h.2 v hv).2
theorem Pure.RowsTwo (x0 x1 : List V) (h0 : Fit (.sl VT) x0) (h1 : Fit (.sl VT) x1) : ∃ k, transomlaw06_RowsTwo.f k x0 x1 = some true := by
  obtain ⟨k, hk, e⟩ : ∃ k, 9000 ≤ k ∧ 9062 = k + 60 + 1 + 1 := ⟨9000, Nat.le_refl _, rfl⟩
  refine ⟨9062, ?_⟩
  rw [e]
  have aw2 : transomlaw06_awake.f (k + 60 + 1) = some true := awake_all (k + 1)
  have aw1 : transomlaw06_awake.f (k + 60) = some true := awake_all k
  simp only [transomlaw06_RowsTwo.f, transomlaw06_RowsTwo.c, few05 x0 (k + 60 + 1 + 1) (by omega), few05 x1 (k + 60 + 1 + 1) (by omega), Option.bind_some, Option.bind_fun_some]
  have stop : transomlaw06_RowsTwo.s0 (k + 60 + 1 + 1) x0 x1 true = some true := by
    simp only [transomlaw06_RowsTwo.s0, transomlaw06_RowsTwo.s0c, cond_true, aw2, Option.bind_some]
  by_cases hf : x0.length ≤ 30 ∧ ∀ v ∈ x0, v.2.2.2.1.size ≤ 2000
  · rw [if_pos hf]
    by_cases hg : x1.length ≤ 30 ∧ ∀ v ∈ x1, v.2.2.2.1.size ≤ 2000
    · rw [if_pos hg]
      have hx := few_bits (fit_v h0 hf)
      have hy := few_bits (fit_v h1 hg)
      have l0 := hf.1
      have l1 := hg.1
      have s1 := rowsSame_eq x0 x1 (by omega) (k + 60) (by omega)
      have s2 := refSame_eq x0 x1 (by omega) (k + 60) (by omega)
      have c1 := rowsCmp_eq x0 x1 hx hy (by omega) (k + 60) (by omega)
      have c2 := refCmp_eq x0 x1 hx hy (by omega) (by omega) (k + 60) (by omega)
      simp only [transomlaw06_RowsTwo.s0, transomlaw06_RowsTwo.s0c, transomlaw06_RowsTwo.s1, transomlaw06_RowsTwo.s1c, s1, s2, c1, c2, aw1, Option.bind_some, Option.bind_fun_some, beq_self_eq_true, cond_true]; rfl
    · rw [if_neg hg]
      exact stop
  · rw [if_neg hf]
    exact stop
end Go.Proofs.Ytlclhjdfbkenfaa.Aev
