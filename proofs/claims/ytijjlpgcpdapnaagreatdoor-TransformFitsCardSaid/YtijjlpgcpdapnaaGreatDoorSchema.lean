import Derived.Test.YtijjlpgcpdapnaaGreatDoorF0
import Derived.Test.YtijjlpgcpdapnaaGreatDoorF1
import Derived.Test.YtijjlpgcpdapnaaGreatDoorF2
import Derived.Test.YtijjlpgcpdapnaaGreatDoorF3
import Derived.Test.YtijjlpgcpdapnaaGreatDoorF7
import Derived.Test.YtijjlpgcpdapnaaGreatDoorNames
import Derived.Test.YtijjlpgcpdapnaaGreatDoorVals

/- Tables: whether a column, and a table, may be: the program's and the document's ways. -/
namespace Go.Proofs.YtijjlpgcpdapnaaGreatDoor.Aev
open Go
set_option linter.unusedVariables false
set_option linter.unusedSimpArgs false
set_option maxRecDepth 100000
abbrev C : Type := D_api_Col
theorem elem_c {l : List C} {i : Nat} (h : i < l.length) : elem T_api_Col l (i : Int) = l[i] := by
 simp [elem, List.getD, List.getElem?_eq_getElem h]
def FewC (c : C) : Prop := ∃ n : Nat, c.2.2.2.1.2.2.1 = (n : Int) ∧ n < 18446744073709551616
def FewL (l : List C) : Prop := l.length ≤ 20 ∧ ∀ c ∈ l, FewC c
def fewB (l : List C) : Prop := ∀ c ∈ l, c.1.size ≤ 500 ∧ c.2.2.2.1.2.2.2.1.size ≤ 2000
instance (l : List C) : Decidable (fewB l) := by unfold fewB; infer_instance
theorem few04' (a0 a1 a2 : Int) (s : ByteArray) (k : Nat) : transomlaw04_Few.f k a0 a1 a2 s = some (if s.size ≤ 2000 then 1 else 0) := by
 simp only [transomlaw04_Few.f, transomlaw04_Few.c, cond_true, cond_false, if_b, decide_eq_true_eq, Bool.and_eq_true, Bool.or_eq_true, beq_iff_eq, bne_iff_ne, ne_eq, Bool.not_eq_true', Bool.not_eq_false', Bool.true_and, Bool.and_true, Bool.false_eq_true, if_false, if_true, true_and, and_true, os, Option.bind_none, ofs, beq_eq_false_iff_ne, decide_eq_false_iff_not, toList_iff]
 by_cases h : s.size ≤ 2000
 ·rw [if_neg (by omega), if_pos h]
 ·rw [if_pos (by omega), if_neg h]
theorem few09_s2 (l : List C) (nm : ByteArray) (a : Int) (hl : l.length ≤ 20) : ∀ (m i : Nat), i + m = l.length → ∀ k, 3 * m < k → transomlaw09_Few.s2 k (i : Int) nm a l = some (if fewB (l.drop i) then 1 else 0) := by
 intro m
 induction m with
 | zero =>
  intro i hi k hk
  obtain ⟨k, rfl⟩ : ∃ j, k = j + 1 := ⟨k - 1, by omega⟩
  have e : ¬ (i : Int) < (l.length : Int) := by omega
  rw [List.drop_eq_nil_of_le (by omega)]
  simp [transomlaw09_Few.s2, transomlaw09_Few.s2c, e, fewB]
 | succ m ih =>
  intro i hi k hk
  obtain ⟨k, rfl⟩ : ∃ j, k = j + 3 := ⟨k - 3, by omega⟩
  have hlt : i < l.length := by omega
  have e0 : (i : Int) < (l.length : Int) := by omega
  have e1 : (0 : Int) ≤ (i : Int) := by omega
  have e2 : IntKind.wrap IntKind.i64 ((i : Int) + 1) = ((i + 1 : Nat) : Int) := by rw [i64w (by omega) (by omega)]; omega
  have he := elem_c hlt
  have h1 := ih (i + 1) (by omega) k (by omega)
  have hd : fewB (l.drop i) ↔ (l[i].1.size ≤ 500 ∧ l[i].2.2.2.1.2.2.2.1.size ≤ 2000) ∧ fewB (l.drop (i + 1)) := by
   unfold fewB
   rw [List.drop_eq_getElem_cons hlt, List.forall_mem_cons]
  simp only [transomlaw09_Few.s2, transomlaw09_Few.s2c, transomlaw09_Few.s3, transomlaw09_Few.s3c, transomlaw09_Few.s4, transomlaw09_Few.s4c, e0, e1, e2, he, few04', h1, decide_true, Bool.and_self, cond_true, os, ofs]
  by_cases c1 : l[i].1.size ≤ 500
  ·have c1' : ¬ (l[i].1.size : Int) > 500 := by omega
   by_cases c2 : l[i].2.2.2.1.2.2.2.1.size ≤ 2000
   ·have : fewB (l.drop i) ↔ fewB (l.drop (i + 1)) := by rw [hd]; simp [c1, c2]
    simp only [c1', c2, decide_false, cond_false, if_true, this]; rfl
   ·have : ¬ fewB (l.drop i) := by rw [hd]; simp [c2]
    simp only [c1', c2, decide_false, cond_false, if_false, this]; rfl
  ·have c1' : (l[i].1.size : Int) > 500 := by omega
   have : ¬ fewB (l.drop i) := by rw [hd]; simp [c1]
   simp only [c1', decide_true, cond_true, if_false, this]
theorem few09 (nm : ByteArray) (a : Int) (l : List C) (k : Nat) (hk : 100 ≤ k) : transomlaw09_Few.f k nm a l = some (if l.length ≤ 20 ∧ nm.size ≤ 500 ∧ fewB l then 1 else 0) := by
 obtain ⟨k, rfl⟩ : ∃ j, k = j + 2 := ⟨k - 2, by omega⟩
 simp only [transomlaw09_Few.f, transomlaw09_Few.c, transomlaw09_Few.s0, transomlaw09_Few.s0c, transomlaw09_Few.s1, transomlaw09_Few.s1c, ofs]
 by_cases h : l.length ≤ 20
 ·have e : ¬ (l.length : Int) > 20 := by omega
  by_cases h2 : nm.size ≤ 500
  ·have e2 : ¬ (nm.size : Int) > 500 := by omega
   have h1 : ∀ k, 100 ≤ k + 2 → transomlaw09_Few.s2 k 0 nm a l = some (if fewB l then 1 else 0) := fun k hk => few09_s2 l nm a h l.length 0 (by omega) k (by omega)
   simp only [e, e2, h1 k hk, decide_false, cond_false, h, h2, true_and]
  ·have e2 : (nm.size : Int) > 500 := by omega
   simp only [e, e2, decide_false, decide_true, cond_false, cond_true, h, h2, true_and, false_and, if_false]
 ·have e : (l.length : Int) > 20 := by omega
  simp only [e, decide_true, cond_true, h, false_and, if_false]
theorem nat_u64 {x : Int} (h : Fit (.int .u64) x) : ∃ n : Nat, x = (n : Int) ∧ n < 18446744073709551616 := by
 have := fit_u64 h
 exact ⟨x.toNat, by omega, by omega⟩
theorem fit_l {l : List C} (h : Fit (.sl T_api_Col) l) (h1 : l.length ≤ 20) (h2 : fewB l) : FewL l := by
 refine ⟨h1, fun c hc => ?_⟩
 obtain ⟨_, h3⟩ := h
 obtain ⟨_, f2, _, ⟨_, f4, f5, _⟩, _⟩ := h3 c hc
 exact nat_u64 f5
/-! a column -/
theorem bne_dec (a b : Int) : (a != b) = !decide (a = b) := by rw [Bool.eq_iff_iff]; simp
noncomputable def vchk (v : D_api_Value) : Int := checkS v.1 v.2.1 v.2.2.1.toNat v.2.2.2.1
noncomputable def colS (c : C) : Int := if nameS c.1.data.toList ≠ 0 then nameS c.1.data.toList else if c.2.1 < 1 ∨ 5 < c.2.1 then 5 else if vchk c.2.2.2.1 ≠ 0 then vchk c.2.2.2.1 else if c.2.2.2.1.1 ≠ 0 ∧ c.2.2.2.1.1 ≠ c.2.1 then 11 else 0
theorem vchk_f {c : C} (h : FewC c) {k : Nat} (hk : 200 ≤ k) : values_Check.f k c.2.2.2.1.1 c.2.2.2.1.2.1 c.2.2.2.1.2.2.1 c.2.2.2.1.2.2.2.1 = some (vchk c.2.2.2.1) := by
 obtain ⟨n, hn, hn2⟩ := h
 unfold vchk
 rw [hn]
 exact vcheck_eq (by omega)
theorem col_f {c : C} (h : FewC c) {k : Nat} (hk : 300 ≤ k) : schema_col.f k c.1 c.2.1 c.2.2.1 c.2.2.2.1.1 c.2.2.2.1.2.1 c.2.2.2.1.2.2.1 c.2.2.2.1.2.2.2.1 = some (if colS c = 0 then .inr () else .inl (colS c, ())) := by
 obtain ⟨k, rfl⟩ : ∃ j, k = j + 2 := ⟨k - 2, by omega⟩
 have hv := (vchk_f h (k := k + 2) (by omega))
 have hv1 := (vchk_f h (k := k + 1) (by omega))
 have hv0 := (vchk_f h (k := k) (by omega))
 simp only [schema_col.f, schema_col.c, schema_col.s0, schema_col.s0c, schema_col.s1, schema_col.s1c, ncheck_eq _ (k + 2) (by omega), hv, hv1, hv0, os, ofs]
 unfold colS
 by_cases c1 : nameS c.1.data.toList = 0
 ·by_cases c2 : c.2.1 < 1
  ·simp [bne_dec, c1, c2]
  ·by_cases c3 : 5 < c.2.1
   ·have : c.2.1 > 5 := c3
    simp [bne_dec, c1, c2, c3]
   ·have c3' : ¬ c.2.1 > 5 := c3
    by_cases c4 : vchk c.2.2.2.1 = 0
    ·by_cases c5 : c.2.2.2.1.1 = 0
     ·simp [bne_dec, c1, c2, c3, c4, c5]
     ·by_cases c6 : c.2.2.2.1.1 = c.2.1
      ·have c5' : ¬ c.2.1 = 0 := by rw [← c6]; exact c5
       simp [bne_dec, c1, c2, c3, c4, c5, c6, c5']
      ·simp [bne_dec, c1, c2, c3, c4, c5, c6]
    ·simp [bne_dec, c1, c2, c3, c4]
 ·simp [bne_dec, c1]
theorem checkCol_f {c : C} (h : FewC c) {k : Nat} (hk : 300 ≤ k) : schema_CheckCol.f k c.1 c.2.1 c.2.2.1 c.2.2.2.1.1 c.2.2.2.1.2.1 c.2.2.2.1.2.2.1 c.2.2.2.1.2.2.2.1 = some (colS c) := by
 simp only [schema_CheckCol.f, schema_CheckCol.c, col_f h hk, os]
 by_cases c : colS c = 0
 ·rw [if_pos c, c]; rfl
 ·rw [if_neg c]; rfl
/-! the columns' names -/
def namesOf (l : List C) : List ByteArray := l.map (·.1)
theorem words_s0 (l : List C) (hl : l.length ≤ 1000) : ∀ (m i : Nat), i + m = l.length → ∀ k, m < k → schema_words.s0 k l (l.length : Int) (i : Int) (namesOf (l.take i) ++ List.replicate m (ByteArray.mk (List.toArray []))) = some (namesOf l) := by
 intro m
 induction m with
 | zero =>
  intro i hi k hk
  obtain ⟨k, rfl⟩ : ∃ j, k = j + 1 := ⟨k - 1, by omega⟩
  have e : ¬ (i : Int) < (l.length : Int) := by omega
  rw [List.take_of_length_le (by omega)]
  simp [schema_words.s0, schema_words.s0c, e]
 | succ m ih =>
  intro i hi k hk
  obtain ⟨k, rfl⟩ : ∃ j, k = j + 1 := ⟨k - 1, by omega⟩
  have hlt : i < l.length := by omega
  have e0 : (i : Int) < (l.length : Int) := by omega
  have e1 : (0 : Int) ≤ (i : Int) := by omega
  have e2 : IntKind.wrap IntKind.i64 ((i : Int) + 1) = ((i + 1 : Nat) : Int) := by rw [i64w (by omega) (by omega)]; omega
  have he := elem_c hlt
  have h1 := ih (i + 1) (by omega) k (by omega)
  have hlen : (namesOf (l.take i)).length = i := by unfold namesOf; simp; omega
  have e3 : (i : Int) < ((namesOf (l.take i) ++ List.replicate (m + 1) (ByteArray.mk (List.toArray []))).length : Int) := by
   rw [List.length_append, hlen, List.length_replicate]; omega
  have hset : (namesOf (l.take i) ++ List.replicate (m + 1) (ByteArray.mk (List.toArray []))).set (Int.toNat (i : Int)) l[i].1 = namesOf (l.take (i + 1)) ++ List.replicate m (ByteArray.mk (List.toArray [])) := by
   rw [Int.toNat_natCast, List.replicate_succ, List.set_append_right _ _ (by rw [hlen]; exact Nat.le_refl _), hlen, Nat.sub_self, List.set_cons_zero, List.take_succ_eq_append_getElem hlt]
   unfold namesOf
   rw [List.map_append]
   simp
  simp only [schema_words.s0, schema_words.s0c, e0, e1, e2, e3, he, hset, h1, decide_true, Bool.and_self, cond_true, ofs]
theorem words_f (l : List C) (hl : l.length ≤ 1000) (k : Nat) (hk : 1100 ≤ k) : schema_words.f k l = some (namesOf l) := by
 have h1 := words_s0 l hl l.length 0 (by omega) k (by omega)
 have e1 : (l.length : Int) ≤ (l.length : Int) := Int.le_refl _
 have e2 : (l.length : Int) * 16 ≤ 35184372088832 := by omega
 simp only [schema_words.f, schema_words.c, e1, e2, decide_true, Bool.and_self, cond_true, ofs, Int.toNat_natCast]
 exact h1
theorem namesOf_len (l : List C) : (namesOf l).length = l.length := by simp [namesOf]
theorem sfind_f (nm : ByteArray) (a : Int) (l : List C) (s : ByteArray) (hl : l.length ≤ 1000) (k : Nat) (hk : 1200 ≤ k) : schema_Find.f k nm a l s = some (place (findS s (namesOf l)) 0) := by
 simp only [schema_Find.f, schema_Find.c, words_f l hl k (by omega), find_eq (namesOf l) s (by rw [namesOf_len]; exact hl) k (by omega), os]
/-! a table -/
noncomputable def colsS : List C → Int
 | [] => 0
 | c :: l => if colS c ≠ 0 then colS c else colsS l
def anyNull (l : List C) : Bool := l.any fun c => c.2.2.1
noncomputable def tabS (nm : ByteArray) (a : Int) (l : List C) : Int :=
 if nameS nm.data.toList ≠ 0 then nameS nm.data.toList else if l.length < 1 ∨ 8 < l.length then 2 else if a < 1 ∨ 3 < a ∨ (l.length : Int) < a then 1
 else if colsS l ≠ 0 then colsS l else if unlikeS (namesOf l) = false then 12 else if anyNull (l.take a.toNat) = true then 11 else 0
theorem col74_s0 (l : List C) (hl : l.length ≤ 1000) : ∀ (m i : Nat), i + m = l.length → ∀ k, m < k → ∃ r, api_Col_120.s0 k l (l.length : Int) (i : Int) = some r ∧ decide (r ≥ 0) = anyNull (l.drop i) := by
 intro m
 induction m with
 | zero =>
  intro i hi k hk
  obtain ⟨k, rfl⟩ : ∃ j, k = j + 1 := ⟨k - 1, by omega⟩
  have e : ¬ (i : Int) < (l.length : Int) := by omega
  rw [List.drop_eq_nil_of_le (by omega)]
  exact ⟨-1, by simp [api_Col_120.s0, api_Col_120.s0c, e], by rfl⟩
 | succ m ih =>
  intro i hi k hk
  obtain ⟨k, rfl⟩ : ∃ j, k = j + 1 := ⟨k - 1, by omega⟩
  have hlt : i < l.length := by omega
  have e0 : (i : Int) < (l.length : Int) := by omega
  have e1 : (0 : Int) ≤ (i : Int) := by omega
  have e2 : IntKind.wrap IntKind.i64 ((i : Int) + 1) = ((i + 1 : Nat) : Int) := by rw [i64w (by omega) (by omega)]; omega
  have he := elem_c hlt
  obtain ⟨r, h1, h2⟩ := ih (i + 1) (by omega) k (by omega)
  rw [List.drop_eq_getElem_cons hlt]
  simp only [api_Col_120.s0, api_Col_120.s0c, schema_table_1.f, schema_table_1.c, e0, e1, e2, he, h1, decide_true, Bool.and_self, cond_true, os, ofs]
  cases hc : l[i].2.2.1 with
  | true => exact ⟨(i : Int), rfl, by unfold anyNull; rw [List.any_cons, hc, Bool.true_or]; simp⟩
  | false => exact ⟨r, rfl, by rw [h2]; unfold anyNull; rw [List.any_cons, hc, Bool.false_or]⟩
theorem col54_f (l : List C) (hl : l.length ≤ 1000) (k : Nat) (hk : 1100 ≤ k) : api_Col_101.f k l = some (anyNull l) := by
 obtain ⟨r, h1, h2⟩ := col74_s0 l hl l.length 0 (by omega) k (by omega)
 have h1' : api_Col_120.s0 k l (l.length : Int) 0 = some r := h1
 simp only [api_Col_101.f, api_Col_101.c, api_Col_120.f, api_Col_120.c, h1', ofs, os]
 rw [h2, List.drop_zero]
noncomputable def tailS (a : Int) (l : List C) : Int := if unlikeS (namesOf l) = false then 12 else if anyNull (l.take a.toNat) = true then 11 else 0
theorem table_s4 (l : List C) (hl : FewL l) (nm : ByteArray) (a : Int) (ha : 0 ≤ a) (ha2 : a ≤ l.length) : ∀ (m i : Nat), i + m = l.length → ∀ k, m + 6000 < k →
  schema_table.s4 k l (l.length : Int) (i : Int) nm a l = some (if (if colsS (l.drop i) ≠ 0 then colsS (l.drop i) else tailS a l) = 0 then .inr () else .inl ((if colsS (l.drop i) ≠ 0 then colsS (l.drop i) else tailS a l), ())) := by
 intro m
 have hl1 := hl.1
 induction m with
 | zero =>
  intro i hi k hk
  obtain ⟨k, rfl⟩ : ∃ j, k = j + 1 := ⟨k - 1, by omega⟩
  have e : ¬ (i : Int) < (l.length : Int) := by omega
  rw [List.drop_eq_nil_of_le (by omega)]
  simp only [schema_table.s4, schema_table.s4c, e, decide_false, cond_false, words_f l (by omega) k (by omega), unlike_eq (namesOf l) (by rw [namesOf_len]; omega) k (by omega), ha, ha2, decide_true, Bool.and_self, cond_true, List.drop_zero, Nat.sub_zero, col54_f (l.take a.toNat) (by simp; omega) k (by omega), os, ofs, colsS, ne_eq, not_true, if_false]
  unfold tailS
  cases unlikeS (namesOf l) <;> cases anyNull (l.take a.toNat) <;> rfl
 | succ m ih =>
  intro i hi k hk
  obtain ⟨k, rfl⟩ : ∃ j, k = j + 1 := ⟨k - 1, by omega⟩
  have hlt : i < l.length := by omega
  have e0 : (i : Int) < (l.length : Int) := by omega
  have e1 : (0 : Int) ≤ (i : Int) := by omega
  have e2 : IntKind.wrap IntKind.i64 ((i : Int) + 1) = ((i + 1 : Nat) : Int) := by rw [i64w (by omega) (by omega)]; omega
  have he := elem_c hlt
  have h1 := ih (i + 1) (by omega) k (by omega)
  have hc := col_f (hl.2 l[i] (List.getElem_mem hlt)) (k := k) (by omega)
  rw [List.drop_eq_getElem_cons hlt]
  simp only [schema_table.s4, schema_table.s4c, e0, e1, e2, he, h1, hc, colsS, decide_true, Bool.and_self, cond_true, os, ofs]
  by_cases c : colS l[i] = 0
  ·simp only [c, if_true, Sum.elim_inr, ne_eq, not_true, if_false]
  ·simp only [c, if_false, Sum.elim_inl, ne_eq, not_false_iff, if_true]
theorem table_f (nm : ByteArray) (a : Int) {l : List C} (hl : FewL l) {k : Nat} (hk : 7000 ≤ k) : schema_table.f k nm a l = some (if tabS nm a l = 0 then .inr () else .inl (tabS nm a l, ())) := by
 obtain ⟨k, rfl⟩ : ∃ j, k = j + 4 := ⟨k - 4, by omega⟩
 have hl1 := hl.1
 simp only [schema_table.f, schema_table.c, schema_table.s0, schema_table.s0c, schema_table.s1, schema_table.s1c, schema_table.s2, schema_table.s2c, schema_table.s3, schema_table.s3c, ncheck_eq nm (k + 4) (by omega), os, ofs]
 unfold tabS
 by_cases c1 : nameS nm.data.toList = 0
 ·by_cases c2 : l.length < 1
  ·have c2' : (l.length : Int) < 1 := by omega
   simp only [c1, c2, c2', bne_self_eq_false, cond_false, decide_true, cond_true, ne_eq, not_true, if_false, true_or, if_true]; rfl
  ·have c2' : ¬ (l.length : Int) < 1 := by omega
   by_cases c3 : 8 < l.length
   ·have c3' : (l.length : Int) > 8 := by omega
    simp only [c1, c2, c2', c3, c3', bne_self_eq_false, cond_false, decide_true, decide_false, cond_true, ne_eq, not_true, if_false, or_true, if_true]; rfl
   ·have c3' : ¬ (l.length : Int) > 8 := by omega
    by_cases c4 : a < 1
    ·simp only [c1, c2, c2', c3, c3', c4, bne_self_eq_false, cond_false, decide_true, decide_false, cond_true, ne_eq, not_true, if_false, or_self, true_or, if_true]; rfl
    ·by_cases c5 : 3 < a ∨ (l.length : Int) < a
     ·have c5' : a > (if (l.length : Int) < 3 then (l.length : Int) else 3) := by split <;> omega
      simp only [c1, c2, c2', c3, c3', c4, c5, c5', bne_self_eq_false, cond_false, decide_true, decide_false, cond_true, ne_eq, not_true, if_false, or_self, or_true, if_true]; rfl
     ·have c5' : ¬ a > (if (l.length : Int) < 3 then (l.length : Int) else 3) := by split <;> omega
      have h4 := table_s4 l hl nm a (by omega) (by omega) l.length 0 (by omega) (k + 4) (by omega)
      have h4' : schema_table.s4 (k + 4) l (l.length : Int) 0 nm a l = _ := h4
      simp only [c1, c2, c2', c3, c3', c4, c5, c5', bne_self_eq_false, cond_false, decide_true, decide_false, cond_true, ne_eq, not_true, if_false, or_self]
      have h5 := table_s4 l hl nm a (by omega) (by omega) l.length 0 (by omega) k (by omega)
      first | exact h4 | exact h5 | (refine Eq.trans (table_s4 l hl nm a (by omega) (by omega) l.length 0 (by omega) _ (by omega)) ?_; simp only [List.drop_zero, tailS, ne_eq])
 ·simp only [c1, bne_iff_ne.2 c1, cond_true, ne_eq, not_false_iff, if_true, if_false]
theorem scheck_f (nm : ByteArray) (a : Int) {l : List C} (hl : FewL l) {k : Nat} (hk : 7000 ≤ k) : schema_Check.f k nm a l = some (tabS nm a l) := by
 simp only [schema_Check.f, schema_Check.c, table_f nm a hl hk, os]
 by_cases c : tabS nm a l = 0
 ·rw [if_pos c, c]; rfl
 ·rw [if_neg c]; rfl
end Go.Proofs.YtijjlpgcpdapnaaGreatDoor.Aev
