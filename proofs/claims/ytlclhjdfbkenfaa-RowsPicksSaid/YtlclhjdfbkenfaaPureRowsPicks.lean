/- RowsPicks: values picked out of a row are those the document says. For every input; no conditions. -/
import Derived.Test.YtlclhjdfbkenfaaF5
import Derived.Test.YtlclhjdfbkenfaaF8
import Derived.Test.YtlclhjdfbkenfaaF15
import Derived.Test.YtlclhjdfbkenfaaF18
import Derived.Test.YtlclhjdfbkenfaaF19
import Derived.Test.YtlclhjdfbkenfaaSameRow
namespace Go.Proofs.Ytlclhjdfbkenfaa.Aev
open Go
set_option linter.unusedVariables false
set_option linter.unusedSimpArgs false
set_option maxRecDepth 100000
theorem awake_all (k : Nat) : transomlaw06_awake.f (k + 60) = some true := by kernel_rfl
theorem refSame_eq (l m : List V) (hl : l.length ≤ 1000) (k : Nat) (hk : 2000 ≤ k) : transomref06_Same.f k l m = some (decide (l = m)) := by
  simp only [transomref06_Same.f, transomref06_Same.c, samerow_eq l m (by omega) k (by omega), Option.bind_some]
theorem elem_int {l : List Int} {i : Nat} (h : i < l.length) : elem (Ty.int IntKind.i64) l (i : Int) = l[i] := by
  simp [elem, List.getD, List.getElem?_eq_getElem h]
/-- the values at these places -/
def pickL (l : List V) : List Int → List V → List V × Int
  | [], acc => (acc, 0)
  | j :: js, acc => if j < 0 ∨ (l.length : Int) ≤ j then ([], 1) else pickL l js (acc ++ [elem VT l j])
theorem pickL_len (l : List V) : ∀ (js : List Int) (acc : List V), (pickL l js acc).1.length ≤ acc.length + js.length
  | [], acc => by simp [pickL]
  | j :: js, acc => by
    simp only [pickL]
    split
    · simp
    · have := pickL_len l js (acc ++ [elem VT l j]); simp at this ⊢; omega
theorem pick_s0 (l : List V) (js : List Int) (hl : l.length ≤ 1000) (hj : js.length ≤ 1000) : ∀ (m i : Nat) (acc : List V), i + m = js.length → acc.length = i → ∀ k, 4 * m < k →
    rows_Pick.s0 k l js (js.length : Int) (i : Int) acc = some (pickL l (js.drop i) acc) := by
  intro m
  induction m with
  | zero =>
    intro i acc hi ha k hk
    obtain ⟨k, rfl⟩ : ∃ j, k = j + 1 := ⟨k - 1, by omega⟩
    have e : ¬ (i : Int) < (js.length : Int) := by omega
    rw [List.drop_eq_nil_of_le (by omega)]
    simp only [rows_Pick.s0, rows_Pick.s0c, e, decide_false, cond_false, pickL]
  | succ m ih =>
    intro i acc hi ha k hk
    obtain ⟨k, rfl⟩ : ∃ j, k = j + 4 := ⟨k - 4, by omega⟩
    have hlt : i < js.length := by omega
    have e : (i : Int) < (js.length : Int) := by omega
    have e1 : (0 : Int) ≤ (i : Int) := by omega
    have e2 : IntKind.wrap IntKind.i64 ((i : Int) + 1) = ((i + 1 : Nat) : Int) := by rw [i64w (by omega) (by omega)]; omega
    have e3 : (acc.length + 1) * 40 ≤ 35184372088832 := by omega
    simp only [rows_Pick.s0, rows_Pick.s0c, rows_Pick.s1, rows_Pick.s1c, rows_Pick.s2, rows_Pick.s2c, rows_Pick.s3, rows_Pick.s3c, e, e1, e2, e3, elem_int hlt, decide_true, Bool.and_self, cond_true, Option.bind_fun_some, List.drop_eq_getElem_cons hlt, pickL]
    generalize js[i] = j
    have := ih (i + 1) (acc ++ [elem VT l j]) (by omega) (by simp; omega) k (by omega)
    by_cases c : j < 0
    · rw [decide_eq_true c, if_pos (Or.inl c)]; rfl
    · by_cases d : (l.length : Int) ≤ j
      · have d' : j ≥ (l.length : Int) := d
        rw [decide_eq_false c, decide_eq_true d', if_pos (Or.inr d)]; rfl
      · have d' : ¬ j ≥ (l.length : Int) := d
        have d1 : 0 ≤ j := by omega
        have d2 : j < (l.length : Int) := by omega
        rw [decide_eq_false c, decide_eq_false d', decide_eq_true d1, decide_eq_true d2, if_neg (by omega)]
        exact this
theorem refpick_s0 (l : List V) (js : List Int) (hl : l.length ≤ 1000) (hj : js.length ≤ 1000) : ∀ (m i : Nat) (acc : List V), i + m = js.length → acc.length = i → ∀ k, 4 * m < k →
    transomref06_Pick.s0 k l js (i : Int) acc = some (pickL l (js.drop i) acc) := by
  intro m
  induction m with
  | zero =>
    intro i acc hi ha k hk
    obtain ⟨k, rfl⟩ : ∃ j, k = j + 1 := ⟨k - 1, by omega⟩
    have e : ¬ (i : Int) < (js.length : Int) := by omega
    rw [List.drop_eq_nil_of_le (by omega)]
    simp only [transomref06_Pick.s0, transomref06_Pick.s0c, e, decide_false, cond_false, pickL]
  | succ m ih =>
    intro i acc hi ha k hk
    obtain ⟨k, rfl⟩ : ∃ j, k = j + 4 := ⟨k - 4, by omega⟩
    have hlt : i < js.length := by omega
    have e : (i : Int) < (js.length : Int) := by omega
    have e1 : (0 : Int) ≤ (i : Int) := by omega
    have e2 : IntKind.wrap IntKind.i64 ((i : Int) + 1) = ((i + 1 : Nat) : Int) := by rw [i64w (by omega) (by omega)]; omega
    have e3 : (acc.length + 1) * 40 ≤ 35184372088832 := by omega
    simp only [transomref06_Pick.s0, transomref06_Pick.s0c, transomref06_Pick.s1, transomref06_Pick.s1c, transomref06_Pick.s2, transomref06_Pick.s2c, transomref06_Pick.s3, transomref06_Pick.s3c, e, e1, e2, e3, elem_int hlt, decide_true, Bool.and_self, cond_true, Option.bind_fun_some, List.drop_eq_getElem_cons hlt, pickL]
    generalize js[i] = j
    have := ih (i + 1) (acc ++ [elem VT l j]) (by omega) (by simp; omega) k (by omega)
    by_cases c : j < 0
    · rw [decide_eq_true c, if_pos (Or.inl c)]; rfl
    · by_cases d : (l.length : Int) ≤ j
      · have d' : j ≥ (l.length : Int) := d
        rw [decide_eq_false c, decide_eq_true d', if_pos (Or.inr d)]; rfl
      · have d' : ¬ j ≥ (l.length : Int) := d
        have d1 : 0 ≤ j := by omega
        have d2 : j < (l.length : Int) := by omega
        rw [decide_eq_false c, decide_eq_false d', decide_eq_true d1, decide_eq_true d2, if_neg (by omega)]
        exact this
theorem Pure.RowsPicks (x0 : List V) (x1 : List Int) (h0 : Fit (.sl VT) x0) (h1 : Fit (.sl (.int .i64)) x1) : ∃ k, transomlaw06_RowsPicks.f k x0 x1 = some true := by
  obtain ⟨k, hk, e⟩ : ∃ k, 9000 ≤ k ∧ 9062 = k + 60 + 1 + 1 := ⟨9000, Nat.le_refl _, rfl⟩
  refine ⟨9062, ?_⟩
  rw [e]
  have aw2 : transomlaw06_awake.f (k + 60 + 1) = some true := awake_all (k + 1)
  have aw1 : transomlaw06_awake.f (k + 60) = some true := awake_all k
  simp only [transomlaw06_RowsPicks.f, transomlaw06_RowsPicks.c, few05 x0 (k + 60 + 1 + 1) (by omega), Option.bind_some, Option.bind_fun_some]
  by_cases hf : x0.length ≤ 30 ∧ ∀ v ∈ x0, v.2.2.2.1.size ≤ 2000
  · rw [if_pos hf]
    have hl := hf.1
    by_cases hj : (x1.length : Int) > 50
    · rw [decide_eq_true hj]
      simp only [transomlaw06_RowsPicks.s0, transomlaw06_RowsPicks.s0c, cond_true, cond_false, aw2, Option.bind_some]; rfl
    · rw [decide_eq_false hj]
      have p1 := pick_s0 x0 x1 (by omega) (by omega) x1.length 0 [] (by omega) rfl (k + 60) (by omega)
      have p2 := refpick_s0 x0 x1 (by omega) (by omega) x1.length 0 [] (by omega) rfl (k + 60) (by omega)
      rw [List.drop_zero] at p1 p2
      have q1 : rows_Pick.f (k + 60) x0 x1 = some (pickL x0 x1 []) := by
        simp only [rows_Pick.f, rows_Pick.c, Option.bind_fun_some]; exact p1
      have q2 : transomref06_Pick.f (k + 60) x0 x1 = some (pickL x0 x1 []) := by
        simp only [transomref06_Pick.f, transomref06_Pick.c, Option.bind_fun_some]; exact p2
      have hlen := pickL_len x0 x1 []
      rw [List.length_nil] at hlen
      have r3 := refSame_eq (pickL x0 x1 []).1 (pickL x0 x1 []).1 (by omega) (k + 60) (by omega)
      simp only [transomlaw06_RowsPicks.s0, transomlaw06_RowsPicks.s0c, transomlaw06_RowsPicks.s1, transomlaw06_RowsPicks.s1c, q1, q2, r3, aw1, cond_true, cond_false, Option.bind_some, Option.bind_fun_some, decide_true, beq_self_eq_true]; rfl
  · rw [if_neg hf]
    simp only [transomlaw06_RowsPicks.s0, transomlaw06_RowsPicks.s0c, beq_self_eq_true, cond_true, aw2, Option.bind_some]
end Go.Proofs.Ytlclhjdfbkenfaa.Aev
