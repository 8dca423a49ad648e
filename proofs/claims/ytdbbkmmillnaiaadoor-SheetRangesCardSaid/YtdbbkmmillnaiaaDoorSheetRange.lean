
/- Sheets: rows from a key on: the program's and the document's ways. -/
import Derived.Test.YtdbbkmmillnaiaaDoorF8
import Derived.Test.YtdbbkmmillnaiaaDoorF13
import Derived.Test.YtdbbkmmillnaiaaDoorSheetAt
namespace Go.Proofs.YtdbbkmmillnaiaaDoor.Aev
open Go
set_option linter.unusedVariables false
set_option linter.unusedSimpArgs false
set_option maxRecDepth 100000
def rowsOf (l : List Ln) : List (List V) := l.map fun x => x.2.1
theorem nil_dec (h : ByteArray) : (h.toList == (ByteArray.mk (List.toArray [])).toList) = decide (h.size = 0) := by
  rw [Bool.eq_iff_iff, beq_iff_eq, decide_eq_true_iff, nil_toList, ← size_toList, List.length_eq_zero_iff]
/-- is a key ahead of the end? -/
def fore (hi key : ByteArray) : Bool := decide (hi.size = 0) || ltK key hi
theorem rngL_zero (hi : ByteArray) (l : List Ln) : rngL hi 0 l = [] := by cases l <;> rfl
theorem rngL_cons (hi : ByteArray) (n : Nat) (x : Ln) (l : List Ln) : rngL hi (n + 1) (x :: l) = bif fore hi x.1 then x :: rngL hi n l else [] := by
  unfold fore
  conv => lhs; unfold rngL
  by_cases h : hi.size = 0 <;> cases h2 : ltK x.1 hi <;> simp [h]
theorem rngR_zero (lo hi : ByteArray) (l : List Ln) : rngR lo hi 0 l = [] := by cases l <;> rfl
theorem rngR_cons (lo hi : ByteArray) (n : Nat) (x : Ln) (l : List Ln) : rngR lo hi (n + 1) (x :: l) = bif !(ltK x.1 lo) && fore hi x.1 then x :: rngR lo hi n l else rngR lo hi (n + 1) l := by
  unfold fore
  conv => lhs; unfold rngR
  cases h1 : ltK x.1 lo <;> by_cases h : hi.size = 0 <;> cases h2 : ltK x.1 hi <;> simp [h]
theorem range_s0 (hi : ByteArray) (most : Int) (l : List Ln) (hl : l.length ≤ 1000) : ∀ (m i : Nat), i + m = l.length → ∀ (out : List (List V)), out.length ≤ i → ∀ k, 4 * m < k →
    sheet_Range.s0 k hi most l (l.length : Int) (i : Int) out = some (out ++ rowsOf (rngL hi (most - (out.length : Int)).toNat (l.drop i))) := by
  intro m
  induction m with
  | zero =>
    intro i hi' out ho k hk
    obtain ⟨k, rfl⟩ : ∃ q, k = q + 1 := ⟨k - 1, by omega⟩
    have e : ¬ (i : Int) < (l.length : Int) := by omega
    rw [List.drop_eq_nil_of_le (by omega)]
    have : rngL hi (most - (out.length : Int)).toNat ([] : List Ln) = [] := by cases (most - (out.length : Int)).toNat <;> rfl
    rw [this]
    simp only [sheet_Range.s0, sheet_Range.s0c, e, decide_false, cond_false, rowsOf, List.map_nil, List.append_nil]
  | succ m ih =>
    intro i hi' out ho k hk
    obtain ⟨k, rfl⟩ : ∃ q, k = q + 4 := ⟨k - 4, by omega⟩
    have hlt : i < l.length := by omega
    have e0 : (i : Int) < (l.length : Int) := by omega
    have e1 : (0 : Int) ≤ (i : Int) := by omega
    have e2 : IntKind.wrap IntKind.i64 ((i : Int) + 1) = ((i + 1 : Nat) : Int) := by rw [i64w (by omega) (by omega)]; omega
    have he := elem_l hlt
    by_cases c : (out.length : Int) ≥ most
    · have hz : (most - (out.length : Int)).toNat = 0 := by omega
      rw [hz, rngL_zero]
      simp only [sheet_Range.s0, sheet_Range.s0c, sheet_Range.s1, sheet_Range.s1c, e0, e1, he, c, decide_true, Bool.and_self, cond_true, Option.bind_some, rowsOf, List.map_nil, List.append_nil]
    · obtain ⟨q, hq⟩ : ∃ q, (most - (out.length : Int)).toNat = q + 1 := ⟨(most - (out.length : Int)).toNat - 1, by omega⟩
      have h1 := ih (i + 1) (by omega) (out ++ [l[i].2.1]) (by simp only [List.length_append, List.length_cons, List.length_nil]; omega) k (by omega)
      have hq' : (most - ((out ++ [l[i].2.1]).length : Int)).toNat = q := by simp only [List.length_append, List.length_cons, List.length_nil]; omega
      rw [hq'] at h1
      have c1 : (out.length + 1) * 24 ≤ 35184372088832 := by omega
      rw [hq, List.drop_eq_getElem_cons hlt, rngL_cons]
      simp only [sheet_Range.s0, sheet_Range.s0c, sheet_Range.s1, sheet_Range.s1c, sheet_Range.s2, sheet_Range.s2c, sheet_Range.s3, sheet_Range.s3c, e0, e1, e2, he, c, nil_dec, less_ltK, cut_all, c1, h1, Int.le_refl, decide_true, decide_false, Bool.and_self, cond_true, cond_false, Option.bind_some, Option.bind_fun_some, fore]
      by_cases d : hi.size = 0
      · simp only [d, decide_true, Bool.not_true, cond_false, Bool.true_or, cond_true, rowsOf, List.map_cons, List.append_assoc, List.singleton_append]
      · simp only [d, decide_false, Bool.not_false, cond_true, Bool.false_or]
        cases ltK l[i].1 hi with
        | true => simp only [Bool.not_true, cond_false, cond_true, rowsOf, List.map_cons, List.append_assoc, List.singleton_append]
        | false => simp only [Bool.not_false, cond_true, cond_false, rowsOf, List.map_nil, List.append_nil]
theorem range_f (nm : ByteArray) (a : Int) (cols : List C) (l : List Ln) (lo hi : ByteArray) (most : Int) (hl : l.length ≤ 1000) (hr : Rise l) (k : Nat) (hk : 5000 ≤ k) :
    sheet_Range.f k nm a cols l lo hi most = some (rowsOf (rngL hi most.toNat (l.drop (pos l lo)))) := by
  have hp := pos_le l lo
  have h := range_s0 hi most (l.drop (pos l lo)) (by rw [List.length_drop]; omega) (l.drop (pos l lo)).length 0 (by omega) [] (by simp) k (by rw [List.length_drop]; omega)
  have h' : sheet_Range.s0 k hi most (l.drop (pos l lo)) ((l.drop (pos l lo)).length : Int) 0 [] = some (rowsOf (rngL hi most.toNat (l.drop (pos l lo)))) := by
    refine Eq.trans h ?_
    simp
  have e1 : (0 : Int) ≤ ((pos l lo : Nat) : Int) := by omega
  have e2 : ((pos l lo : Nat) : Int) ≤ (l.length : Int) := by omega
  simp only [sheet_Range.f, sheet_Range.c, at_f l lo hl hr k (by omega), e1, e2, cut_drop, h', Int.le_refl, decide_true, Bool.and_self, cond_true, Option.bind_some, Option.bind_fun_some]
theorem rrange_s0 (lo hi : ByteArray) (most : Int) (nm : ByteArray) (a : Int) (cols : List C) (l : List Ln) (hl : l.length ≤ 1000) : ∀ (m i : Nat), i + m = l.length → ∀ (out : List (List V)), out.length ≤ i → ∀ k, 5 * m + 2 < k →
    transomref12_Range.s0 k lo hi most (i : Int) nm a cols l out = some (out ++ rowsOf (rngR lo hi (most - (out.length : Int)).toNat (l.drop i))) := by
  intro m
  induction m with
  | zero =>
    intro i hi' out ho k hk
    obtain ⟨k, rfl⟩ : ∃ q, k = q + 2 := ⟨k - 2, by omega⟩
    have e : ¬ (i : Int) < (l.length : Int) := by omega
    rw [List.drop_eq_nil_of_le (by omega)]
    have : rngR lo hi (most - (out.length : Int)).toNat ([] : List Ln) = [] := by cases (most - (out.length : Int)).toNat <;> rfl
    rw [this]
    simp only [transomref12_Range.s0, transomref12_Range.s0c, transomref12_Range.s1, transomref12_Range.s1c, e, decide_false, cond_false, rowsOf, List.map_nil, List.append_nil, Option.bind_some]
  | succ m ih =>
    intro i hi' out ho k hk
    obtain ⟨k, rfl⟩ : ∃ q, k = q + 5 := ⟨k - 5, by omega⟩
    have hlt : i < l.length := by omega
    have e0 : (i : Int) < (l.length : Int) := by omega
    have e1 : (0 : Int) ≤ (i : Int) := by omega
    have e2 : IntKind.wrap IntKind.i64 ((i : Int) + 1) = ((i + 1 : Nat) : Int) := by rw [i64w (by omega) (by omega)]; omega
    have he := elem_l hlt
    by_cases c : (out.length : Int) < most
    · obtain ⟨q, hq⟩ : ∃ q, (most - (out.length : Int)).toNat = q + 1 := ⟨(most - (out.length : Int)).toNat - 1, by omega⟩
      have h1 := ih (i + 1) (by omega) (out ++ [l[i].2.1]) (by simp only [List.length_append, List.length_cons, List.length_nil]; omega) k (by omega)
      have hq' : (most - ((out ++ [l[i].2.1]).length : Int)).toNat = q := by simp only [List.length_append, List.length_cons, List.length_nil]; omega
      rw [hq'] at h1
      have h2 := ih (i + 1) (by omega) out (by omega) k (by omega)
      rw [hq] at h2
      have c1 : (out.length + 1) * 24 ≤ 35184372088832 := by omega
      rw [hq, List.drop_eq_getElem_cons hlt, rngR_cons]
      simp only [transomref12_Range.s0, transomref12_Range.s0c, transomref12_Range.s1, transomref12_Range.s1c, transomref12_Range.s2, transomref12_Range.s2c, transomref12_Range.s3, transomref12_Range.s3c, transomref12_Range.s4, transomref12_Range.s4c, e0, e1, e2, he, c, nil_dec, less_ltK, c1, h1, h2, decide_true, Bool.and_self, cond_true, Option.bind_some, Option.bind_fun_some, fore]
      cases ltK l[i].1 lo with
      | true => simp only [Bool.not_true, cond_false, Bool.false_and]
      | false =>
        by_cases d : hi.size = 0
        · simp only [d, decide_true, Bool.not_false, Bool.true_or, Bool.and_self, cond_true, rowsOf, List.map_cons, List.append_assoc, List.singleton_append]
        · cases ltK l[i].1 hi with
          | true => simp only [d, decide_false, Bool.not_false, Bool.false_or, Bool.and_self, cond_true, cond_false, rowsOf, List.map_cons, List.append_assoc, List.singleton_append]
          | false => simp only [d, decide_false, Bool.not_false, Bool.false_or, Bool.and_false, cond_true, cond_false]
    · have hz : (most - (out.length : Int)).toNat = 0 := by omega
      rw [hz, rngR_zero]
      simp only [transomref12_Range.s0, transomref12_Range.s0c, transomref12_Range.s1, transomref12_Range.s1c, e0, c, decide_true, decide_false, cond_true, cond_false, Option.bind_some, rowsOf, List.map_nil, List.append_nil]
theorem rrange_f (nm : ByteArray) (a : Int) (cols : List C) (l : List Ln) (lo hi : ByteArray) (most : Int) (hl : l.length ≤ 1000) (hr : Rise l) (k : Nat) (hk : 6000 ≤ k) :
    transomref12_Range.f k nm a cols l lo hi most = some (rowsOf (rngL hi most.toNat (l.drop (pos l lo)))) := by
  have h := rrange_s0 lo hi most nm a cols l hl l.length 0 (by omega) [] (by simp) k (by omega)
  have h' : transomref12_Range.s0 k lo hi most 0 nm a cols l [] = some (rowsOf (rngL hi most.toNat (l.drop (pos l lo)))) := by
    refine Eq.trans h ?_
    rw [← rng_eq lo hi l _ hr]
    simp
  simp only [transomref12_Range.f, transomref12_Range.c, h', Option.bind_some, Option.bind_fun_some]
theorem all_s0 (l : List (List V)) (hl : l.length ≤ 1000) (hv : ∀ x ∈ l, x.length ≤ 1000) : ∀ (m i : Nat), i + m = l.length → ∀ k, m + 2000 < k → transomref06_All.s0 k l l (i : Int) = some true := by
  intro m
  induction m with
  | zero =>
    intro i hi k hk
    obtain ⟨k, rfl⟩ : ∃ q, k = q + 1 := ⟨k - 1, by omega⟩
    have e : ¬ (i : Int) < (l.length : Int) := by omega
    simp only [transomref06_All.s0, transomref06_All.s0c, e, decide_false, cond_false]
  | succ m ih =>
    intro i hi k hk
    obtain ⟨k, rfl⟩ : ∃ q, k = q + 1 := ⟨k - 1, by omega⟩
    have hlt : i < l.length := by omega
    have e0 : (i : Int) < (l.length : Int) := by omega
    have e1 : (0 : Int) ≤ (i : Int) := by omega
    have e2 : IntKind.wrap IntKind.i64 ((i : Int) + 1) = ((i + 1 : Nat) : Int) := by rw [i64w (by omega) (by omega)]; omega
    have he : elem (Ty.sl T_api_Value) l (i : Int) = l[i] := by simp [elem, List.getD, List.getElem?_eq_getElem hlt]
    have h1 := ih (i + 1) (by omega) k (by omega)
    have h2 := refSame_eq l[i] l[i] (hv _ (List.getElem_mem hlt)) k (by omega)
    simp only [transomref06_All.s0, transomref06_All.s0c, e0, e1, e2, he, h1, h2, Bool.not_true, cond_false, decide_true, Bool.and_self, cond_true, Option.bind_some, Option.bind_fun_some]
theorem all_f (l : List (List V)) (hl : l.length ≤ 1000) (hv : ∀ x ∈ l, x.length ≤ 1000) (k : Nat) (hk : 6000 ≤ k) : transomref06_All.f k l l = some true := by
  have h := all_s0 l hl hv l.length 0 (by omega) k (by omega)
  have h' : transomref06_All.s0 k l l 0 = some true := h
  simp only [transomref06_All.f, transomref06_All.c, bne_self_eq_false, cond_false, h', Option.bind_some, Option.bind_fun_some]
end Go.Proofs.YtdbbkmmillnaiaaDoor.Aev
