
/- Rows behind a change: all rows: the program's way is the document's. -/
import Derived.Test.YtijjlpgcpdapnaaGreatDoorF4
import Derived.Test.YtijjlpgcpdapnaaGreatDoorF5
import Derived.Test.YtijjlpgcpdapnaaGreatDoorF11
import Derived.Test.YtijjlpgcpdapnaaGreatDoorTransRow
namespace Go.Proofs.YtijjlpgcpdapnaaGreatDoor.Aev
open Go
set_option linter.unusedVariables false
set_option linter.unusedSimpArgs false
set_option maxRecDepth 100000
abbrev Ans : Type := List (List V) × Int
theorem elem_r {l : List (List V)} {i : Nat} (h : i < l.length) : elem (Ty.sl T_api_Value) l (i : Int) = l[i] := by
  simp [elem, List.getD, List.getElem?_eq_getElem h]
theorem fewrows_s0 (l : List (List V)) (hl : l.length ≤ 30) : ∀ (m i : Nat), i + m = l.length → ∀ k, m + 40 < k →
    ∃ r, transomlaw11_FewRows.s0 k l (i : Int) = some r ∧ (r = 0 ∨ ∀ x ∈ l.drop i, x.length ≤ 30 ∧ ∀ v ∈ x, v.2.2.2.1.size ≤ 2000) := by
  intro m
  induction m with
  | zero =>
    intro i hi k hk
    obtain ⟨k, rfl⟩ : ∃ q, k = q + 1 := ⟨k - 1, by omega⟩
    have e : ¬ (i : Int) < (l.length : Int) := by omega
    rw [List.drop_eq_nil_of_le (by omega)]
    simp only [transomlaw11_FewRows.s0, transomlaw11_FewRows.s0c, e, decide_false, cond_false]
    exact ⟨1, rfl, .inr (by simp)⟩
  | succ m ih =>
    intro i hi k hk
    obtain ⟨k, rfl⟩ : ∃ q, k = q + 1 := ⟨k - 1, by omega⟩
    have hlt : i < l.length := by omega
    have e0 : (i : Int) < (l.length : Int) := by omega
    have e1 : (0 : Int) ≤ (i : Int) := by omega
    have e2 : IntKind.wrap IntKind.i64 ((i : Int) + 1) = ((i + 1 : Nat) : Int) := by rw [i64w (by omega) (by omega)]; omega
    obtain ⟨r, h1, h2⟩ := ih (i + 1) (by omega) k (by omega)
    have hz1 : ((1 : Int) == 0) = false := rfl
    have hz0 : ((0 : Int) == 0) = true := rfl
    rw [List.drop_eq_getElem_cons hlt]
    simp only [transomlaw11_FewRows.s0, transomlaw11_FewRows.s0c, e0, e1, e2, elem_r hlt, few05 (l[i]) k (by omega), h1, decide_true, Bool.and_self, cond_true, Option.bind_some, Option.bind_fun_some]
    by_cases c : (l[i]).length ≤ 30 ∧ ∀ v ∈ l[i], v.2.2.2.1.size ≤ 2000
    · rw [if_pos c, hz1, cond_false]
      refine ⟨r, rfl, h2.imp id fun h => ?_⟩
      rw [List.forall_mem_cons]
      exact ⟨c, h⟩
    · rw [if_neg c, hz0, cond_true]; exact ⟨0, rfl, .inl rfl⟩
theorem fewrows (l : List (List V)) (k : Nat) (hk : 100 ≤ k) : ∃ r, transomlaw11_FewRows.f k l = some r ∧ (r = 0 ∨ (l.length ≤ 30 ∧ ∀ x ∈ l, x.length ≤ 30 ∧ ∀ v ∈ x, v.2.2.2.1.size ≤ 2000)) := by
  simp only [transomlaw11_FewRows.f, transomlaw11_FewRows.c]
  by_cases c : (l.length : Int) > 30
  · simp only [c, decide_true, cond_true]; exact ⟨0, rfl, .inl rfl⟩
  · obtain ⟨r, h1, h2⟩ := fewrows_s0 l (by omega) l.length 0 (by omega) k (by omega)
    have h1' : transomlaw11_FewRows.s0 k l 0 = some r := h1
    simp only [c, decide_false, cond_false, h1', Option.bind_some, Option.bind_fun_some]
    exact ⟨r, rfl, h2.imp id fun h => ⟨by omega, by simpa using h⟩⟩
noncomputable def rows1 (R : List V → Ans) : List (List V) → Nat → List (List V) → List (List (List V)) × Int × Int
  | [], _, a => ([a], 0, 0)
  | x :: l, i, a => if (R x).2 ≠ 0 then ([], (i : Int), (R x).2) else rows1 R l (i + 1) (a ++ [(R x).1.getD 0 []])
noncomputable def rows2 (R : List V → Ans) : List (List V) → Nat → List (List V) → List (List V) → List (List (List V)) × Int × Int
  | [], _, a, b => ([a, b], 0, 0)
  | x :: l, i, a, b => if (R x).2 ≠ 0 then ([], (i : Int), (R x).2) else rows2 R l (i + 1) (a ++ [(R x).1.getD 0 []]) (b ++ [(R x).1.getD 1 []])
noncomputable def rows0 (R : List V → Ans) : List (List V) → Nat → List (List (List V)) × Int × Int
  | [], _ => ([], 0, 0)
  | x :: l, i => if (R x).2 ≠ 0 then ([], (i : Int), (R x).2) else rows0 R l (i + 1)
theorem elem_r0 {l : List (List V)} (h : 0 < l.length) : elem (Ty.sl T_api_Value) l (0 : Int) = l.getD 0 [] := by
  rw [getD_at h]; exact elem_r h
theorem elem_r1 {l : List (List V)} (h : 1 < l.length) : elem (Ty.sl T_api_Value) l (1 : Int) = l.getD 1 [] := by
  rw [getD_at h]; exact elem_r h
section
variable (c : Ch) (nm : ByteArray) (keys : Int) (cols : List C) (l : List (List V)) (R : List V → Ans)
theorem prows1 (hl : l.length ≤ 1000) (hR : ∀ x ∈ l, ∀ k, 12000 ≤ k → transform_Row.f k nm keys cols c x = some (R x)) (hn : ∀ x ∈ l, (R x).2 = 0 → 1 ≤ (R x).1.length) : ∀ (m i : Nat) (a : List (List V)), i + m = l.length → a.length ≤ i → ∀ k, m + 12000 < k →
    transform_Rows.s2_0 k l (l.length : Int) (i : Int) nm keys cols c a = some (rows1 R (l.drop i) i a) := by
  intro m
  induction m with
  | zero =>
    intro i a hi ha k hk
    obtain ⟨k, rfl⟩ : ∃ q, k = q + 1 := ⟨k - 1, by omega⟩
    have e : ¬ (i : Int) < (l.length : Int) := by omega
    rw [List.drop_eq_nil_of_le (by omega)]
    simp only [transform_Rows.s2_0, transform_Rows.s2_0c, e, decide_false, cond_false, rows1]
  | succ m ih =>
    intro i a hi ha k hk
    obtain ⟨k, rfl⟩ : ∃ q, k = q + 1 := ⟨k - 1, by omega⟩
    have hlt : i < l.length := by omega
    have e0 : (i : Int) < (l.length : Int) := by omega
    have e1 : (0 : Int) ≤ (i : Int) := by omega
    have e2 : IntKind.wrap IntKind.i64 ((i : Int) + 1) = ((i + 1 : Nat) : Int) := by rw [i64w (by omega) (by omega)]; omega
    have hx := hR (l[i]) (List.getElem_mem _) k (by omega)
    have z1 : (a.length + 1) * 24 ≤ 2 ^ 45 := by omega
    rw [List.drop_eq_getElem_cons hlt]
    simp only [transform_Rows.s2_0, transform_Rows.s2_0c, e0, e1, e2, elem_r hlt, hx, z1, decide_true, Bool.and_self, Bool.true_and, cond_true, Option.bind_some, Option.bind_fun_some, rows1]
    by_cases q : (R l[i]).2 = 0
    · have q' : ((R l[i]).2 != 0) = false := by rw [q]; rfl
      have hp := hn (l[i]) (List.getElem_mem _) q
      have hp' : (0 : Int) < ((R l[i]).1.length : Int) := by omega
      rw [q', cond_false, if_neg (by simpa using q), decide_eq_true hp', cond_true, elem_r0 (by omega)]
      exact ih (i + 1) _ (by omega) (by simp; omega) k (by omega)
    · have q' : ((R l[i]).2 != 0) = true := bne_iff_ne.2 q
      rw [q', cond_true, if_pos q]
theorem rrows1 (hl : l.length ≤ 1000) (hR : ∀ x ∈ l, ∀ k, 12000 ≤ k → transomref11_Row.f k nm keys cols c x = some (R x)) (hn : ∀ x ∈ l, (R x).2 = 0 → 1 ≤ (R x).1.length) : ∀ (m i : Nat) (a : List (List V)), i + m = l.length → a.length ≤ i → ∀ k, m + 12000 < k →
    transomref11_Rows.s4_0 k l 1 (i : Int) nm keys cols c a = some (rows1 R (l.drop i) i a) := by
  intro m
  induction m with
  | zero =>
    intro i a hi ha k hk
    obtain ⟨k, rfl⟩ : ∃ q, k = q + 1 := ⟨k - 1, by omega⟩
    have e : ¬ (i : Int) < (l.length : Int) := by omega
    rw [List.drop_eq_nil_of_le (by omega)]
    simp only [transomref11_Rows.s4_0, transomref11_Rows.s4_0c, e, decide_false, cond_false, rows1]
  | succ m ih =>
    intro i a hi ha k hk
    obtain ⟨k, rfl⟩ : ∃ q, k = q + 1 := ⟨k - 1, by omega⟩
    have hlt : i < l.length := by omega
    have e0 : (i : Int) < (l.length : Int) := by omega
    have e1 : (0 : Int) ≤ (i : Int) := by omega
    have e2 : IntKind.wrap IntKind.i64 ((i : Int) + 1) = ((i + 1 : Nat) : Int) := by rw [i64w (by omega) (by omega)]; omega
    have hx := hR (l[i]) (List.getElem_mem _) k (by omega)
    have z1 : (a.length + 1) * 24 ≤ 2 ^ 45 := by omega
    have d1 : (0 : Int) < 1 := by decide
    have d2 : ¬ (1 : Int) < 1 := by decide
    rw [List.drop_eq_getElem_cons hlt]
    simp only [transomref11_Rows.s4_0, transomref11_Rows.s4_0c, e0, e1, e2, elem_r hlt, hx, z1, d1, d2, decide_true, decide_false, Bool.and_self, Bool.true_and, cond_true, cond_false, Option.bind_some, Option.bind_fun_some, rows1]
    by_cases q : (R l[i]).2 = 0
    · have q' : ((R l[i]).2 != 0) = false := by rw [q]; rfl
      have hp := hn (l[i]) (List.getElem_mem _) q
      have hp' : (0 : Int) < ((R l[i]).1.length : Int) := by omega
      rw [q', cond_false, if_neg (by simpa using q), decide_eq_true hp', cond_true, elem_r0 (by omega)]
      exact ih (i + 1) _ (by omega) (by simp; omega) k (by omega)
    · have q' : ((R l[i]).2 != 0) = true := bne_iff_ne.2 q
      rw [q', cond_true, if_pos q]
theorem prows2 (hl : l.length ≤ 1000) (hR : ∀ x ∈ l, ∀ k, 12000 ≤ k → transform_Row.f k nm keys cols c x = some (R x)) (hn : ∀ x ∈ l, (R x).2 = 0 → 2 ≤ (R x).1.length) : ∀ (m i : Nat) (a b : List (List V)), i + m = l.length → a.length ≤ i → b.length ≤ i → ∀ k, m + 12000 < k →
    transform_Rows.s2_1 k l (l.length : Int) (i : Int) nm keys cols c a b = some (rows2 R (l.drop i) i a b) := by
  intro m
  induction m with
  | zero =>
    intro i a b hi ha hb k hk
    obtain ⟨k, rfl⟩ : ∃ q, k = q + 1 := ⟨k - 1, by omega⟩
    have e : ¬ (i : Int) < (l.length : Int) := by omega
    rw [List.drop_eq_nil_of_le (by omega)]
    simp only [transform_Rows.s2_1, transform_Rows.s2_1c, e, decide_false, cond_false, rows2]
  | succ m ih =>
    intro i a b hi ha hb k hk
    obtain ⟨k, rfl⟩ : ∃ q, k = q + 1 := ⟨k - 1, by omega⟩
    have hlt : i < l.length := by omega
    have e0 : (i : Int) < (l.length : Int) := by omega
    have e1 : (0 : Int) ≤ (i : Int) := by omega
    have e2 : IntKind.wrap IntKind.i64 ((i : Int) + 1) = ((i + 1 : Nat) : Int) := by rw [i64w (by omega) (by omega)]; omega
    have hx := hR (l[i]) (List.getElem_mem _) k (by omega)
    have z1 : (a.length + 1) * 24 ≤ 2 ^ 45 := by omega
    have z2 : (b.length + 1) * 24 ≤ 2 ^ 45 := by omega
    rw [List.drop_eq_getElem_cons hlt]
    simp only [transform_Rows.s2_1, transform_Rows.s2_1c, e0, e1, e2, elem_r hlt, hx, z1, z2, decide_true, Bool.and_self, Bool.true_and, cond_true, Option.bind_some, Option.bind_fun_some, rows2]
    by_cases q : (R l[i]).2 = 0
    · have q' : ((R l[i]).2 != 0) = false := by rw [q]; rfl
      have hp := hn (l[i]) (List.getElem_mem _) q
      have hp' : (0 : Int) < ((R l[i]).1.length : Int) := by omega
      have hp2 : (1 : Int) < ((R l[i]).1.length : Int) := by omega
      rw [q', cond_false, if_neg (by simpa using q), decide_eq_true hp', cond_true, decide_eq_true hp2, cond_true, elem_r0 (by omega), elem_r1 (by omega)]
      exact ih (i + 1) _ _ (by omega) (by simp; omega) (by simp; omega) k (by omega)
    · have q' : ((R l[i]).2 != 0) = true := bne_iff_ne.2 q
      rw [q', cond_true, if_pos q]
theorem rrows2 (hl : l.length ≤ 1000) (hR : ∀ x ∈ l, ∀ k, 12000 ≤ k → transomref11_Row.f k nm keys cols c x = some (R x)) (hn : ∀ x ∈ l, (R x).2 = 0 → 2 ≤ (R x).1.length) : ∀ (m i : Nat) (a b : List (List V)), i + m = l.length → a.length ≤ i → b.length ≤ i → ∀ k, m + 12000 < k →
    transomref11_Rows.s4_1 k l 2 (i : Int) nm keys cols c a b = some (rows2 R (l.drop i) i a b) := by
  intro m
  induction m with
  | zero =>
    intro i a b hi ha hb k hk
    obtain ⟨k, rfl⟩ : ∃ q, k = q + 1 := ⟨k - 1, by omega⟩
    have e : ¬ (i : Int) < (l.length : Int) := by omega
    rw [List.drop_eq_nil_of_le (by omega)]
    simp only [transomref11_Rows.s4_1, transomref11_Rows.s4_1c, e, decide_false, cond_false, rows2]
  | succ m ih =>
    intro i a b hi ha hb k hk
    obtain ⟨k, rfl⟩ : ∃ q, k = q + 1 := ⟨k - 1, by omega⟩
    have hlt : i < l.length := by omega
    have e0 : (i : Int) < (l.length : Int) := by omega
    have e1 : (0 : Int) ≤ (i : Int) := by omega
    have e2 : IntKind.wrap IntKind.i64 ((i : Int) + 1) = ((i + 1 : Nat) : Int) := by rw [i64w (by omega) (by omega)]; omega
    have hx := hR (l[i]) (List.getElem_mem _) k (by omega)
    have z1 : (a.length + 1) * 24 ≤ 2 ^ 45 := by omega
    have z2 : (b.length + 1) * 24 ≤ 2 ^ 45 := by omega
    have d1 : (0 : Int) < 2 := by decide
    have d2 : (1 : Int) < 2 := by decide
    have d3 : ¬ (2 : Int) < 2 := by decide
    rw [List.drop_eq_getElem_cons hlt]
    simp only [transomref11_Rows.s4_1, transomref11_Rows.s4_1c, e0, e1, e2, elem_r hlt, hx, z1, z2, d1, d2, d3, decide_true, decide_false, Bool.and_self, Bool.true_and, cond_true, cond_false, Option.bind_some, Option.bind_fun_some, rows2]
    by_cases q : (R l[i]).2 = 0
    · have q' : ((R l[i]).2 != 0) = false := by rw [q]; rfl
      have hp := hn (l[i]) (List.getElem_mem _) q
      have hp' : (0 : Int) < ((R l[i]).1.length : Int) := by omega
      have hp2 : (1 : Int) < ((R l[i]).1.length : Int) := by omega
      rw [q', cond_false, if_neg (by simpa using q), decide_eq_true hp', cond_true, decide_eq_true hp2, cond_true, elem_r0 (by omega), elem_r1 (by omega)]
      exact ih (i + 1) _ _ (by omega) (by simp; omega) (by simp; omega) k (by omega)
    · have q' : ((R l[i]).2 != 0) = true := bne_iff_ne.2 q
      rw [q', cond_true, if_pos q]
theorem prows0 (hl : l.length ≤ 1000) (hR : ∀ x ∈ l, ∀ k, 12000 ≤ k → transform_Row.f k nm keys cols c x = some (R x)) : ∀ (m i : Nat), i + m = l.length → ∀ k, m + 12000 < k →
    transform_Rows.s2_2 k l (l.length : Int) (i : Int) nm keys cols c [] = some (rows0 R (l.drop i) i) := by
  intro m
  induction m with
  | zero =>
    intro i hi k hk
    obtain ⟨k, rfl⟩ : ∃ q, k = q + 1 := ⟨k - 1, by omega⟩
    have e : ¬ (i : Int) < (l.length : Int) := by omega
    rw [List.drop_eq_nil_of_le (by omega)]
    simp only [transform_Rows.s2_2, transform_Rows.s2_2c, e, decide_false, cond_false, rows0]
  | succ m ih =>
    intro i hi k hk
    obtain ⟨k, rfl⟩ : ∃ q, k = q + 1 := ⟨k - 1, by omega⟩
    have hlt : i < l.length := by omega
    have e0 : (i : Int) < (l.length : Int) := by omega
    have e1 : (0 : Int) ≤ (i : Int) := by omega
    have e2 : IntKind.wrap IntKind.i64 ((i : Int) + 1) = ((i + 1 : Nat) : Int) := by rw [i64w (by omega) (by omega)]; omega
    have hx := hR (l[i]) (List.getElem_mem _) k (by omega)
    have d1 : ¬ (0 : Int) < (([] : List (List (List V))).length : Int) := by simp
    rw [List.drop_eq_getElem_cons hlt]
    simp only [transform_Rows.s2_2, transform_Rows.s2_2c, e0, e1, e2, elem_r hlt, hx, d1, decide_true, decide_false, Bool.and_self, Bool.true_and, cond_true, cond_false, Option.bind_some, Option.bind_fun_some, rows0]
    by_cases q : (R l[i]).2 = 0
    · have q' : ((R l[i]).2 != 0) = false := by rw [q]; rfl
      rw [q', cond_false, if_neg (by simpa using q)]
      exact ih (i + 1) (by omega) k (by omega)
    · have q' : ((R l[i]).2 != 0) = true := bne_iff_ne.2 q
      rw [q', cond_true, if_pos q]
theorem rrows0 (hl : l.length ≤ 1000) (hR : ∀ x ∈ l, ∀ k, 12000 ≤ k → transomref11_Row.f k nm keys cols c x = some (R x)) : ∀ (m i : Nat), i + m = l.length → ∀ k, m + 12000 < k →
    transomref11_Rows.s4_2 k l 0 (i : Int) nm keys cols c [] = some (rows0 R (l.drop i) i) := by
  intro m
  induction m with
  | zero =>
    intro i hi k hk
    obtain ⟨k, rfl⟩ : ∃ q, k = q + 1 := ⟨k - 1, by omega⟩
    have e : ¬ (i : Int) < (l.length : Int) := by omega
    rw [List.drop_eq_nil_of_le (by omega)]
    simp only [transomref11_Rows.s4_2, transomref11_Rows.s4_2c, e, decide_false, cond_false, rows0]
  | succ m ih =>
    intro i hi k hk
    obtain ⟨k, rfl⟩ : ∃ q, k = q + 1 := ⟨k - 1, by omega⟩
    have hlt : i < l.length := by omega
    have e0 : (i : Int) < (l.length : Int) := by omega
    have e1 : (0 : Int) ≤ (i : Int) := by omega
    have e2 : IntKind.wrap IntKind.i64 ((i : Int) + 1) = ((i + 1 : Nat) : Int) := by rw [i64w (by omega) (by omega)]; omega
    have hx := hR (l[i]) (List.getElem_mem _) k (by omega)
    have d1 : ¬ (0 : Int) < 0 := by decide
    rw [List.drop_eq_getElem_cons hlt]
    simp only [transomref11_Rows.s4_2, transomref11_Rows.s4_2c, e0, e1, e2, elem_r hlt, hx, d1, decide_true, decide_false, Bool.and_self, Bool.true_and, cond_true, cond_false, Option.bind_some, Option.bind_fun_some, rows0]
    by_cases q : (R l[i]).2 = 0
    · have q' : ((R l[i]).2 != 0) = false := by rw [q]; rfl
      rw [q', cond_false, if_neg (by simpa using q)]
      exact ih (i + 1) (by omega) k (by omega)
    · have q' : ((R l[i]).2 != 0) = true := bne_iff_ne.2 q
      rw [q', cond_true, if_pos q]
noncomputable def rowsS : List (List (List V)) × Int × Int :=
  if c.1 = 5 then rows2 R l 0 [] [] else if c.1 = 2 ∨ c.1 = 3 ∨ c.1 = 4 ∨ c.1 = 6 then rows1 R l 0 [] else if l = [] then ([], 0, 1) else rows0 R l 0
theorem prows_eq (hl : l.length ≤ 1000) (hR : ∀ x ∈ l, ∀ k, 12000 ≤ k → transform_Row.f k nm keys cols c x = some (R x)) (hn : ∀ x ∈ l, (R x).2 = 0 → 1 ≤ (R x).1.length ∧ (c.1 = 5 → 2 ≤ (R x).1.length)) (k : Nat) (hk : 14000 ≤ k) :
    transform_Rows.f k nm keys cols c l = some (rowsS c l R) := by
  obtain ⟨k, rfl⟩ : ∃ q, k = q + 2 := ⟨k - 2, by omega⟩
  have wd : transform_width.f (k + 2) c = some (if c.1 = 5 then 2 else if c.1 = 2 ∨ c.1 = 3 ∨ c.1 = 4 ∨ c.1 = 6 then 1 else 0) := by
    simp only [transform_width.f, transform_width.c]
    by_cases q5 : c.1 = 5
    · simp [q5]
    · rw [beq_eq_false_iff_ne.2 q5, if_neg q5, cond_false]
      by_cases q1 : c.1 > 1
      · rw [decide_eq_true q1, cond_true]
        by_cases q6 : c.1 ≤ 6
        · rw [decide_eq_true q6, cond_true, if_pos (by omega)]
        · rw [decide_eq_false q6, cond_false, if_neg (by omega)]
      · rw [decide_eq_false q1, cond_false, if_neg (by omega)]
  simp only [transform_Rows.f, transform_Rows.c, wd, Option.bind_some, Option.bind_fun_some]
  unfold rowsS
  by_cases q5 : c.1 = 5
  · have h2 := prows2 c nm keys cols l R hl hR (fun x hx he => (hn x hx he).2 q5) l.length 0 [] [] (by omega) (Nat.le_refl _) (Nat.le_refl _) k (by omega)
    have h2' : transform_Rows.s2_1 k l (l.length : Int) 0 nm keys cols c [] [] = some (rows2 R l 0 [] []) := h2
    rw [if_pos q5, if_pos q5]
    have b1 : ((2 : Int) == 0) = false := rfl
    simp only [b1, cond_false, transform_Rows.s0, transform_Rows.s0c, transform_Rows.s1, transform_Rows.s1c, Option.bind_fun_some, h2']
    rfl
  · rw [if_neg q5, if_neg q5]
    by_cases q1 : c.1 = 2 ∨ c.1 = 3 ∨ c.1 = 4 ∨ c.1 = 6
    · have h2 := prows1 c nm keys cols l R hl hR (fun x hx he => (hn x hx he).1) l.length 0 [] (by omega) (Nat.le_refl _) k (by omega)
      have h2' : transform_Rows.s2_0 k l (l.length : Int) 0 nm keys cols c [] = some (rows1 R l 0 []) := h2
      rw [if_pos q1, if_pos q1]
      have b1 : ((1 : Int) == 0) = false := rfl
      simp only [b1, cond_false, transform_Rows.s0, transform_Rows.s0c, transform_Rows.s1, transform_Rows.s1c, Option.bind_fun_some, h2']
      rfl
    · rw [if_neg q1, if_neg q1]
      have b1 : ((0 : Int) == 0) = true := rfl
      rw [b1, cond_true]
      by_cases ql : l = []
      · subst ql
        rw [if_pos rfl]
        rfl
      · rw [if_neg ql]
        have hlen := List.length_pos_iff.2 ql
        have b2 : ((l.length : Int) == 0) = false := by rw [beq_eq_false_iff_ne]; omega
        have h2 := prows0 c nm keys cols l R hl hR l.length 0 (by omega) k (by omega)
        have h2' : transform_Rows.s2_2 k l (l.length : Int) 0 nm keys cols c [] = some (rows0 R l 0) := h2
        rw [b2]
        simp only [cond_false, transform_Rows.s0, transform_Rows.s0c, transform_Rows.s1, transform_Rows.s1c, Option.bind_fun_some]
        exact h2'
theorem rrows_eq (hl : l.length ≤ 1000) (hR : ∀ x ∈ l, ∀ k, 12000 ≤ k → transomref11_Row.f k nm keys cols c x = some (R x)) (hn : ∀ x ∈ l, (R x).2 = 0 → 1 ≤ (R x).1.length ∧ (c.1 = 5 → 2 ≤ (R x).1.length)) (k : Nat) (hk : 14000 ≤ k) :
    transomref11_Rows.f k nm keys cols c l = some (rowsS c l R) := by
  obtain ⟨k, rfl⟩ : ∃ q, k = q + 4 := ⟨k - 4, by omega⟩
  have S3 : ∀ n : Int, (n = 0 ∧ l ≠ [] ∧ ¬ c.1 = 5 ∧ ¬ (c.1 = 2 ∨ c.1 = 3 ∨ c.1 = 4 ∨ c.1 = 6)) ∨ (n = 1 ∧ ¬ c.1 = 5 ∧ (c.1 = 2 ∨ c.1 = 3 ∨ c.1 = 4 ∨ c.1 = 6)) ∨ (n = 2 ∧ c.1 = 5) → transomref11_Rows.s3 (k + 1) l n nm keys cols c = some (rowsS c l R) := by
    intro n hn'
    unfold rowsS
    rcases hn' with ⟨rfl, ql, q5, q1⟩ | ⟨rfl, q5, q1⟩ | ⟨rfl, q5⟩
    · rw [if_neg q5, if_neg q1, if_neg ql]
      have h2 := rrows0 c nm keys cols l R hl hR l.length 0 (by omega) k (by omega)
      have h2' : transomref11_Rows.s4_2 k l 0 0 nm keys cols c [] = some (rows0 R l 0) := h2
      simp only [transomref11_Rows.s3, transomref11_Rows.s3c, Option.bind_fun_some]
      exact h2'
    · rw [if_neg q5, if_pos q1]
      have h2 := rrows1 c nm keys cols l R hl hR (fun x hx he => (hn x hx he).1) l.length 0 [] (by omega) (Nat.le_refl _) k (by omega)
      have h2' : transomref11_Rows.s4_0 k l 1 0 nm keys cols c [] = some (rows1 R l 0 []) := h2
      simp only [transomref11_Rows.s3, transomref11_Rows.s3c, Option.bind_fun_some]
      exact h2'
    · rw [if_pos q5]
      have h2 := rrows2 c nm keys cols l R hl hR (fun x hx he => (hn x hx he).2 q5) l.length 0 [] [] (by omega) (Nat.le_refl _) (Nat.le_refl _) k (by omega)
      have h2' : transomref11_Rows.s4_1 k l 2 0 nm keys cols c [] [] = some (rows2 R l 0 [] []) := h2
      simp only [transomref11_Rows.s3, transomref11_Rows.s3c, Option.bind_fun_some]
      exact h2'
  have S1 : ∀ n : Int, (n = 0 ∧ ¬ c.1 = 5 ∧ ¬ (c.1 = 2 ∨ c.1 = 3 ∨ c.1 = 4 ∨ c.1 = 6)) ∨ (n = 1 ∧ ¬ c.1 = 5 ∧ (c.1 = 2 ∨ c.1 = 3 ∨ c.1 = 4 ∨ c.1 = 6)) ∨ (n = 2 ∧ c.1 = 5) → transomref11_Rows.s1 (k + 3) l n nm keys cols c = some (rowsS c l R) := by
    intro n hn'
    have h2t : n = 0 → l = [] → transomref11_Rows.s2 (k + 2) l n true nm keys cols c = some (rowsS c l R) := by
      intro h0 hl0
      have : ¬ c.1 = 5 ∧ ¬ (c.1 = 2 ∨ c.1 = 3 ∨ c.1 = 4 ∨ c.1 = 6) := by omega
      unfold rowsS
      rw [if_neg this.1, if_neg this.2, if_pos hl0]
      simp only [transomref11_Rows.s2, transomref11_Rows.s2c, cond_true]
    have h2f : ¬ (n = 0 ∧ l = []) → transomref11_Rows.s2 (k + 2) l n false nm keys cols c = some (rowsS c l R) := by
      intro h0
      simp only [transomref11_Rows.s2, transomref11_Rows.s2c, cond_false, Option.bind_fun_some]
      refine S3 n ?_
      rcases hn' with ⟨a, b, d⟩ | h | h
      · exact .inl ⟨a, fun q => h0 ⟨a, q⟩, b, d⟩
      · exact .inr (.inl h)
      · exact .inr (.inr h)
    simp only [transomref11_Rows.s1, transomref11_Rows.s1c, Option.bind_fun_some]
    by_cases ql : l = []
    · have b2 : ((l.length : Int) == 0) = true := by rw [ql]; rfl
      rw [b2, cond_true]
      by_cases h0 : n = 0
      · rw [beq_iff_eq.2 h0]; exact h2t h0 ql
      · rw [beq_eq_false_iff_ne.2 h0]; exact h2f (fun q => h0 q.1)
    · have hlen := List.length_pos_iff.2 ql
      have b2 : ((l.length : Int) == 0) = false := by rw [beq_eq_false_iff_ne]; omega
      rw [b2, cond_false]
      exact h2f (fun q => ql q.2)
  have S0 : ∀ b : Bool, (b = true ↔ c.1 = 2 ∨ c.1 = 3 ∨ c.1 = 4 ∨ c.1 = 6) → transomref11_Rows.s0 (k + 4) l 0 c.1 b nm keys cols c = some (rowsS c l R) := by
    intro b hb
    cases b with
    | true =>
      have q1 := hb.1 rfl
      simp only [transomref11_Rows.s0, transomref11_Rows.s0c, cond_true, Option.bind_fun_some]
      exact S1 1 (.inr (.inl ⟨rfl, by omega, q1⟩))
    | false =>
      have q1 : ¬ (c.1 = 2 ∨ c.1 = 3 ∨ c.1 = 4 ∨ c.1 = 6) := fun q => by simpa using hb.2 q
      simp only [transomref11_Rows.s0, transomref11_Rows.s0c, cond_false, Option.bind_fun_some]
      by_cases q5 : c.1 = 5
      · rw [beq_iff_eq.2 q5, cond_true]; exact S1 2 (.inr (.inr ⟨rfl, q5⟩))
      · rw [beq_eq_false_iff_ne.2 q5, cond_false]; exact S1 0 (.inl ⟨rfl, q5, q1⟩)
  simp only [transomref11_Rows.f, transomref11_Rows.c, Option.bind_fun_some]
  by_cases q2 : c.1 = 2
  · have b2 : (c.1 == 2) = true := beq_iff_eq.2 q2
    simp only [b2, cond_true]
    exact S0 true (by simp [q2])
  · have b2 : (c.1 == 2) = false := beq_eq_false_iff_ne.2 q2
    by_cases q3 : c.1 = 3
    · have b3 : (c.1 == 3) = true := beq_iff_eq.2 q3
      simp only [b2, b3, cond_true, cond_false]
      exact S0 true (by simp [q3])
    · have b3 : (c.1 == 3) = false := beq_eq_false_iff_ne.2 q3
      by_cases q4 : c.1 = 4
      · have b4 : (c.1 == 4) = true := beq_iff_eq.2 q4
        simp only [b2, b3, b4, cond_true, cond_false]
        exact S0 true (by simp [q4])
      · have b4 : (c.1 == 4) = false := beq_eq_false_iff_ne.2 q4
        simp only [b2, b3, b4, cond_false]
        exact S0 _ (by simp [q2, q3, q4])
end
/-! ### the answers are few -/
def FewA (a : List (List (List V))) : Prop := a.length ≤ 2 ∧ ∀ y ∈ a, y.length ≤ 1000 ∧ ∀ x ∈ y, x.length ≤ 1000
theorem rows1_few (R : List V → Ans) (hR : ∀ x, ∀ y ∈ (R x).1, y.length ≤ 1000) : ∀ (l : List (List V)) (i : Nat) (a : List (List V)), a.length + l.length ≤ 1000 → (∀ x ∈ a, x.length ≤ 1000) → FewA (rows1 R l i a).1
  | [], i, a, h1, h2 => ⟨by simp [rows1], fun y hy => by simp [rows1] at hy; subst hy; exact ⟨by simpa using h1, h2⟩⟩
  | x :: l, i, a, h1, h2 => by
    rw [rows1]
    split
    · exact ⟨by simp, fun y hy => by simp at hy⟩
    · refine rows1_few R hR l (i + 1) _ (by simp at h1 ⊢; omega) (fun z hz => ?_)
      simp only [List.mem_append, List.mem_singleton] at hz
      rcases hz with hz | rfl
      · exact h2 z hz
      · rcases Nat.lt_or_ge 0 (R x).1.length with h | h
        · rw [getD_at h]; exact hR x _ (List.getElem_mem _)
        · rw [getD_out h]; simp
theorem rows2_few (R : List V → Ans) (hR : ∀ x, ∀ y ∈ (R x).1, y.length ≤ 1000) : ∀ (l : List (List V)) (i : Nat) (a b : List (List V)), a.length + l.length ≤ 1000 → b.length + l.length ≤ 1000 → (∀ x ∈ a, x.length ≤ 1000) → (∀ x ∈ b, x.length ≤ 1000) → FewA (rows2 R l i a b).1
  | [], i, a, b, h1, h1', h2, h3 => ⟨by simp [rows2], fun y hy => by
      simp [rows2] at hy
      rcases hy with rfl | rfl
      · exact ⟨by simpa using h1, h2⟩
      · exact ⟨by simpa using h1', h3⟩⟩
  | x :: l, i, a, b, h1, h1', h2, h3 => by
    have hd : ∀ n, ((R x).1.getD n []).length ≤ 1000 := by
      intro n
      rcases Nat.lt_or_ge n (R x).1.length with h | h
      · rw [getD_at h]; exact hR x _ (List.getElem_mem _)
      · rw [getD_out h]; simp
    rw [rows2]
    split
    · exact ⟨by simp, fun y hy => by simp at hy⟩
    · refine rows2_few R hR l (i + 1) _ _ (by simp at h1 ⊢; omega) (by simp at h1' ⊢; omega) (fun z hz => ?_) (fun z hz => ?_)
      · simp only [List.mem_append, List.mem_singleton] at hz
        rcases hz with hz | rfl
        · exact h2 z hz
        · exact hd 0
      · simp only [List.mem_append, List.mem_singleton] at hz
        rcases hz with hz | rfl
        · exact h3 z hz
        · exact hd 1
theorem rows0_few (R : List V → Ans) : ∀ (l : List (List V)) (i : Nat), FewA (rows0 R l i).1
  | [], i => ⟨by simp [rows0], fun y hy => by simp [rows0] at hy⟩
  | x :: l, i => by
    rw [rows0]
    split
    · exact ⟨by simp, fun y hy => by simp at hy⟩
    · exact rows0_few R l (i + 1)
theorem rowsS_few (c : Ch) (l : List (List V)) (R : List V → Ans) (hl : l.length ≤ 1000) (hR : ∀ x, ∀ y ∈ (R x).1, y.length ≤ 1000) : FewA (rowsS c l R).1 := by
  unfold rowsS
  split
  · exact rows2_few R hR l 0 [] [] (by simpa using hl) (by simpa using hl) (by simp) (by simp)
  · split
    · exact rows1_few R hR l 0 [] (by simpa using hl) (by simp)
    · split
      · exact ⟨by simp, fun y hy => by simp at hy⟩
      · exact rows0_few R l 0
theorem elem_rr {l : List (List (List V))} {i : Nat} (h : i < l.length) : elem (Ty.sl (Ty.sl T_api_Value)) l (i : Int) = l[i] := by
  simp [elem, List.getD, List.getElem?_eq_getElem h]
theorem all11_s0 (a : List (List (List V))) (ha : FewA a) : ∀ (m i : Nat), i + m = a.length → ∀ k, m + 7000 < k → transomlaw11_all.s0 k a a (i : Int) = some true := by
  have h1 := ha.1
  intro m
  induction m with
  | zero =>
    intro i hi k hk
    obtain ⟨k, rfl⟩ : ∃ q, k = q + 1 := ⟨k - 1, by omega⟩
    have e : ¬ (i : Int) < (a.length : Int) := by omega
    simp only [transomlaw11_all.s0, transomlaw11_all.s0c, e, decide_false, cond_false]
  | succ m ih =>
    intro i hi k hk
    obtain ⟨k, rfl⟩ : ∃ q, k = q + 1 := ⟨k - 1, by omega⟩
    have hlt : i < a.length := by omega
    have e0 : (i : Int) < (a.length : Int) := by omega
    have e1 : (0 : Int) ≤ (i : Int) := by omega
    have e2 : IntKind.wrap IntKind.i64 ((i : Int) + 1) = ((i + 1 : Nat) : Int) := by rw [i64w (by omega) (by omega)]; omega
    obtain ⟨y1, y2⟩ := ha.2 (a[i]) (List.getElem_mem _)
    have hs := rowsall_f (a[i]) y1 y2 k (by omega)
    simp only [transomlaw11_all.s0, transomlaw11_all.s0c, e0, e1, e2, elem_rr hlt, hs, ih (i + 1) (by omega) k (by omega), decide_true, Bool.and_self, cond_true, Bool.not_true, cond_false, Option.bind_some, Option.bind_fun_some]
theorem all11 (a : List (List (List V))) (ha : FewA a) (k : Nat) (hk : 8000 ≤ k) : transomlaw11_all.f k a a = some true := by
  have h1 := ha.1
  have h := all11_s0 a ha a.length 0 (by omega) k (by omega)
  have h' : transomlaw11_all.s0 k a a 0 = some true := h
  simp only [transomlaw11_all.f, transomlaw11_all.c, bne_self_eq_false, cond_false, h', Option.bind_fun_some]
theorem rowS_n (nm : ByteArray) (keys : Int) (cols : List C) (c : Ch) (row : List V) (h : (rowS nm keys cols c row).2 = 0) : 1 ≤ (rowS nm keys cols c row).1.length ∧ (c.1 = 5 → 2 ≤ (rowS nm keys cols c row).1.length) := by
  unfold rowS at h ⊢
  split at h
  · rename_i h1; exact absurd h h1
  · rename_i h1
    rw [if_neg h1]
    split at h
    · simp at h
    · rename_i h2
      rw [if_neg h2]
      split at h
      · simp at h
      · rename_i h3
        rw [if_neg h3]
        unfold loopS at h ⊢
        split at h
        · rename_i h4
          rw [if_pos h4]
          split at h
          · rename_i h5; exact absurd h h5
          · rename_i h5
            rw [if_neg h5]
            exact ⟨by simp, fun q => by omega⟩
        · rename_i h4
          rw [if_neg h4]
          unfold finS
          split
          · exact ⟨by simp, fun q => by omega⟩
          · split
            · exact ⟨by simp, fun _ => by simp⟩
            · rename_i q5; exact ⟨by simp, fun q => absurd q q5⟩
end Go.Proofs.YtijjlpgcpdapnaaGreatDoor.Aev
