import Derived.Test.YtijjlpgcpdapnaaGreatDoorF5
import Derived.Test.YtijjlpgcpdapnaaGreatDoorTrans

/- Rows behind a change: one row: the program's way is the document's. -/
namespace Go.Proofs.YtijjlpgcpdapnaaGreatDoor.Aev
open Go
set_option linter.unusedVariables false
set_option linter.unusedSimpArgs false
set_option maxRecDepth 100000
def atC (c : Ch) (cols : List C) : Int := place (findS c.2.2.2.2.2.1 (namesOf cols)) 0
theorem place_lt (s : ByteArray) (l : List ByteArray) : place (findS s l) 0 < (l.length : Int) := by
 unfold findS
 cases h : l.findIdx? fun x => decide (x = s) with
 | none => simp only [place]; omega
 | some j =>
  have := (List.findIdx?_eq_some_iff_getElem.1 h).1
  simp only [place]; omega
theorem atC_lt (c : Ch) (cols : List C) : atC c cols < (cols.length : Int) := by
 have := place_lt c.2.2.2.2.2.1 (namesOf cols)
 rw [namesOf_len] at this
 exact this
noncomputable def rowS (nm : ByteArray) (keys : Int) (cols : List C) (c : Ch) (row : List V) : List (List V) × Int :=
 if fitsS nm keys cols row ≠ 0 then ([], fitsS nm keys cols row)
 else if inB nm (srcS c) = false then ([], 1)
 else if (c.1 = 3 ∨ c.1 = 4) ∧ atC c cols < keys then ([], 10)
 else loopS c row cols keys (atC c cols) [] [] 0
theorem fits_0 {nm : ByteArray} {keys : Int} {cols : List C} {row : List V} (h : fitsS nm keys cols row = 0) : 1 ≤ keys ∧ row.length = cols.length ∧ cols.length ≤ 8 := by
 unfold fitsS at h
 split at h
 ·rename_i h1; exact absurd h h1
 ·rename_i h1
  have h1 : tabS nm keys cols = 0 := by simpa using h1
  split at h
  ·simp at h
  ·rename_i h2
   have := tab_len h1
   exact ⟨this.1, by simpa using h2, this.2.2.2.2⟩
theorem gA_id {c : Ch} (h3 : c.1 ≠ 3) (h5 : c.1 ≠ 5) (keys at' : Int) (cols : List C) : ∀ (l : List V) (i : Nat), gA c keys at' cols i l = l
 | [], i => rfl
 | v :: l, i => by
  rw [gA, gA_id h3 h5 keys at' cols l]
  unfold fA
  rw [if_neg (by omega)]; rfl
theorem gA_del {c : Ch} (h3 : c.1 = 3) (keys : Int) (cols : List C) (n : Nat) : ∀ (l : List V) (i : Nat), gA c keys (n : Int) cols i l = if i ≤ n then l.take (n - i) ++ l.drop (n - i + 1) else l
 | [], i => by simp [gA]
 | v :: l, i => by
  rw [gA, gA_del h3 keys cols n l]
  unfold fA
  have h5 : ¬ c.1 = 5 := by omega
  by_cases c1 : i = n
  ·subst c1
   rw [if_pos (.inl ⟨h3, rfl⟩), if_neg (by omega), if_pos (Nat.le_refl _)]
   simp
  ·rw [if_neg (by omega)]
   by_cases c2 : i ≤ n
   ·rw [if_pos (by omega), if_pos c2]
    obtain ⟨q, hq⟩ : ∃ q, n - i = q + 1 := ⟨n - i - 1, by omega⟩
    have hq2 : n - (i + 1) = q := by omega
    rw [hq, hq2]; rfl
   ·rw [if_neg (by omega), if_neg c2]; rfl
theorem prow_eq (nm : ByteArray) (keys : Int) (cols : List C) (hcl : FewL cols) (c : Ch) (hn : c.2.2.2.2.2.2.2.1.length ≤ 60) (row : List V) (hf : FewV row) (hv : ∀ v ∈ row, OkV v) (k : Nat) (hk : 12000 ≤ k) : transform_Row.f k nm keys cols c row = some (rowS nm keys cols c row) := by
 have hsl := srcS_len c
 have hl30 := hf.1
 have hl20 := hcl.1
 have e1 := sfits_f row hf cols hcl nm keys k (by omega)
 have e2 := src_eq c k
 have e3 := contains_eq (srcS c) nm (by omega) k (by omega)
 have e4 := sfind_f nm keys cols c.2.2.2.2.2.1 (by omega) k (by omega)
 have e5 := copied_eq row (by omega) k
 have hat : place (findS c.2.2.2.2.2.1 (namesOf cols)) 0 = atC c cols := rfl
 simp only [transform_Row.f, transform_Row.c, e1, e2, e3, e4, e5, hat, os, ofs]
 unfold rowS
 by_cases c1 : fitsS nm keys cols row = 0
 ·have c1' : (fitsS nm keys cols row != 0) = false := by rw [c1]; rfl
  rw [c1', cond_false, if_neg (by simpa using c1)]
  obtain ⟨g1, g2, g3⟩ := fits_0 c1
  have hlt := atC_lt c cols
  cases hb : inB nm (srcS c) with
  | false => rw [if_pos rfl]; rfl
  | true =>
   rw [if_neg (by simp)]
   have z1 : (row.length + 1) * 40 ≤ 2 ^ 45 := by omega
   have hk : c.1 = 2 ∨ c.1 = 3 ∨ c.1 = 4 ∨ c.1 = 5 ∨ c.1 = 6 := by
    unfold srcS at hb
    split at hb
    ·omega
    ·split at hb
     ·omega
     ·simp [inB, findS, place] at hb
   simp only [Bool.not_true, cond_false]
   by_cases q2 : c.1 = 2
   ·have q3 : ¬ c.1 = 3 := by omega
    have q4 : ¬ c.1 = 4 := by omega
    have n1 : ¬ ((c.1 = 3 ∨ c.1 = 4) ∧ atC c cols < keys) := by omega
    have n2 : ¬ (c.1 = 4 ∧ ((0 : Nat) : Int) ≤ atC c cols ∧ atC c cols < (row.length : Int)) := by omega
    rw [if_neg n1]
    unfold loopS finS
    rw [if_neg n2, if_pos q2, gA_id (by omega) (by omega)]
    simp only [beq_iff_eq.2 q2, z1, decide_true, cond_true, List.drop_zero, List.nil_append]
    rfl
   ·by_cases q3 : c.1 = 3
    ·simp only [beq_eq_false_iff_ne.2 q2, beq_iff_eq.2 q3, cond_true, cond_false]
     by_cases qa : atC c cols < keys
     ·rw [if_pos ⟨.inl q3, qa⟩, decide_eq_true qa, cond_true]
     ·rw [if_neg (fun q => qa q.2), decide_eq_false qa, cond_false]
      obtain ⟨n, hn'⟩ : ∃ n : Nat, atC c cols = (n : Int) := ⟨(atC c cols).toNat, by omega⟩
      have n2 : ¬ (c.1 = 4 ∧ ((0 : Nat) : Int) ≤ atC c cols ∧ atC c cols < (row.length : Int)) := by omega
      have w1 : IntKind.wrap IntKind.i64 ((n : Int) + 1) = ((n + 1 : Nat) : Int) := by rw [i64w (by omega) (by omega)]; omega
      unfold loopS finS
      rw [if_neg n2, if_neg (by omega), if_neg (by omega), hn', gA_del q3]
      have d1 : (0 : Int) ≤ (n : Int) := by omega
      have d2 : (n : Int) ≤ ((n + 1 : Nat) : Int) := by omega
      have d3 : ((n + 1 : Nat) : Int) ≤ (row.length : Int) := by omega
      simp only [w1, d1, d2, d3, decide_true, Bool.and_self, cond_true, Int.toNat_natCast, Nat.zero_le, if_true, Nat.sub_zero, List.drop_zero, List.nil_append]
    ·by_cases q4 : c.1 = 4
     ·simp only [beq_eq_false_iff_ne.2 q2, beq_eq_false_iff_ne.2 q3, beq_iff_eq.2 q4, cond_true, cond_false]
      by_cases qa : atC c cols < keys
      ·rw [if_pos ⟨.inr q4, qa⟩, decide_eq_true qa, cond_true]
      ·rw [if_neg (fun q => qa q.2), decide_eq_false qa, cond_false]
       obtain ⟨n, hn'⟩ : ∃ n : Nat, atC c cols = (n : Int) := ⟨(atC c cols).toNat, by omega⟩
       have hlt' : n < row.length := by omega
       have d1 : (0 : Int) ≤ (n : Int) := by omega
       have d2 : (n : Int) < (row.length : Int) := by omega
       have hcv := cv_eq (hv (row[n]) (List.getElem_mem _)) c.2.2.2.2.2.2.1 k (by omega)
       unfold loopS
       rw [hn', if_pos ⟨q4, by omega, d2⟩]
       simp only [d1, d2, decide_true, Bool.and_self, cond_true, elem_v hlt', hcv, os, Int.toNat_natCast, getD_at hlt', List.nil_append, List.drop_zero]
       by_cases qe : (cv (row[n]) c.2.2.2.2.2.2.1).2.2.2.2 = 0
       ·have qe' : ((cv (row[n]) c.2.2.2.2.2.2.1).2.2.2.2 != 0) = false := by rw [qe]; rfl
        rw [qe', cond_false, if_neg (by simpa using qe)]; rfl
       ·have qe' : ((cv (row[n]) c.2.2.2.2.2.2.1).2.2.2.2 != 0) = true := bne_iff_ne.2 qe
        rw [qe', cond_true, if_pos qe]
     ·have n1 : ¬ ((c.1 = 3 ∨ c.1 = 4) ∧ atC c cols < keys) := by omega
      have n2 : ¬ (c.1 = 4 ∧ ((0 : Nat) : Int) ≤ atC c cols ∧ atC c cols < (row.length : Int)) := by omega
      simp only [beq_eq_false_iff_ne.2 q2, beq_eq_false_iff_ne.2 q3, beq_eq_false_iff_ne.2 q4, cond_false]
      rw [if_neg n1]
      unfold loopS finS
      rw [if_neg n2, if_neg q2]
      by_cases q5 : c.1 = 5
      ·have := parts_eq c q5 hn row cols g2 (by omega) nm keys (atC c cols) k (by omega)
       simp only [beq_iff_eq.2 q5, cond_true, this, os, if_pos q5, List.drop_zero, List.nil_append]
      ·rw [if_neg q5, gA_id q3 q5]
       simp only [beq_eq_false_iff_ne.2 q5, cond_false, List.drop_zero, List.nil_append]
 ·have c1' : (fitsS nm keys cols row != 0) = true := bne_iff_ne.2 c1
  rw [c1', cond_true, if_pos c1]
/-! ### the rows are few -/
theorem gA_le (c : Ch) (keys at' : Int) (cols : List C) : ∀ (l : List V) (i : Nat), (gA c keys at' cols i l).length ≤ l.length
 | [], i => Nat.le_refl _
 | v :: l, i => by
  rw [gA, List.length_append, List.length_cons]
  have := gA_le c keys at' cols l (i + 1)
  have := fA_len c keys at' cols i v
  omega
theorem gB_le (c : Ch) (keys : Int) (cols : List C) : ∀ (l : List V) (i : Nat), (gB c keys cols i l).length ≤ l.length
 | [], i => Nat.le_refl _
 | v :: l, i => by
  rw [gB, List.length_append, List.length_cons]
  have := gB_le c keys cols l (i + 1)
  have := fB_len c keys cols i v
  omega
theorem rowS_few (nm : ByteArray) (keys : Int) (cols : List C) (c : Ch) (row : List V) (hf : FewV row) : (rowS nm keys cols c row).1.length ≤ 2 ∧ ∀ x ∈ (rowS nm keys cols c row).1, x.length ≤ 31 := by
 have hl := hf.1
 have h1 := gA_le c keys (atC c cols) cols row 0
 have h2 := gB_le c keys cols row 0
 unfold rowS loopS finS
 simp only [List.nil_append, List.drop_zero]
 (repeat' split) <;> simp <;> omega
theorem okV_of {row : List V} (h : Fit (.sl T_api_Value) row) (hf : FewV row) : ∀ v ∈ row, OkV v := by
 intro v hv
 obtain ⟨_, h2⟩ := hf
 have hfit := h.2 v hv
 obtain ⟨f0, f1, f2, _⟩ := hfit
 obtain ⟨b0, b1⟩ := fit_i64 f1
 exact ⟨(h2 v hv).1, (h2 v hv).2, b0, b1⟩
end Go.Proofs.YtijjlpgcpdapnaaGreatDoor.Aev
