
/- Sheets: whether one may be: the program's and the document's ways. -/
import Derived.Test.YtdbbkmmillnaiaaGreatDoorF1
import Derived.Test.YtdbbkmmillnaiaaGreatDoorF8
import Derived.Test.YtdbbkmmillnaiaaGreatDoorFitsR
namespace Go.Proofs.YtdbbkmmillnaiaaGreatDoor.Aev
open Go
set_option linter.unusedVariables false
set_option linter.unusedSimpArgs false
set_option maxRecDepth 100000
abbrev Ln : Type := D_api_Line
theorem elem_l {l : List Ln} {i : Nat} (h : i < l.length) : elem T_api_Line l (i : Int) = l[i] := by
  simp [elem, List.getD, List.getElem?_eq_getElem h]
def fewR (r : List V) : Prop := r.length ≤ 30 ∧ ∀ v ∈ r, v.2.2.2.1.size ≤ 2000
instance (r : List V) : Decidable (fewR r) := by unfold fewR; infer_instance
/-- lines that are not too many, and too great -/
def fewLn (l : List Ln) : Prop := ∀ x ∈ l, x.1.size ≤ 2000 ∧ fewR x.2.1
instance (l : List Ln) : Decidable (fewLn l) := by unfold fewLn; infer_instance
theorem few12_s2 (l : List Ln) (nm : ByteArray) (a : Int) (cols : List C) (hl : l.length ≤ 40) : ∀ (m i : Nat), i + m = l.length → ∀ k, 3 * m + 1000 < k → transomlaw12_Few.s2 k (i : Int) nm a cols l = some (if fewLn (l.drop i) then 1 else 0) := by
  intro m
  induction m with
  | zero =>
    intro i hi k hk
    obtain ⟨k, rfl⟩ : ∃ j, k = j + 1 := ⟨k - 1, by omega⟩
    have e : ¬ (i : Int) < (l.length : Int) := by omega
    rw [List.drop_eq_nil_of_le (by omega)]
    simp [transomlaw12_Few.s2, transomlaw12_Few.s2c, e, fewLn]
  | succ m ih =>
    intro i hi k hk
    obtain ⟨k, rfl⟩ : ∃ j, k = j + 3 := ⟨k - 3, by omega⟩
    have hlt : i < l.length := by omega
    have e0 : (i : Int) < (l.length : Int) := by omega
    have e1 : (0 : Int) ≤ (i : Int) := by omega
    have e2 : IntKind.wrap IntKind.i64 ((i : Int) + 1) = ((i + 1 : Nat) : Int) := by rw [i64w (by omega) (by omega)]; omega
    have he := elem_l hlt
    have h1 := ih (i + 1) (by omega) k (by omega)
    have hd : fewLn (l.drop i) ↔ (l[i].1.size ≤ 2000 ∧ fewR l[i].2.1) ∧ fewLn (l.drop (i + 1)) := by
      unfold fewLn
      rw [List.drop_eq_getElem_cons hlt, List.forall_mem_cons]
    have hf : transomlaw05_Few.f (k + 2) l[i].2.1 = some (if fewR l[i].2.1 then 1 else 0) := by
      rw [few05 l[i].2.1 (k + 2) (by omega)]
      congr 1
    simp only [transomlaw12_Few.s2, transomlaw12_Few.s2c, transomlaw12_Few.s3, transomlaw12_Few.s3c, transomlaw12_Few.s4, transomlaw12_Few.s4c, e0, e1, e2, he, hf, h1, decide_true, Bool.and_self, cond_true, Option.bind_some, Option.bind_fun_some]
    by_cases c1 : l[i].1.size ≤ 2000
    · have c1' : ¬ (l[i].1.size : Int) > 2000 := by omega
      by_cases c2 : fewR l[i].2.1
      · have : fewLn (l.drop i) ↔ fewLn (l.drop (i + 1)) := by rw [hd]; simp [c1, c2]
        simp only [c1', c2, decide_false, cond_false, if_true, this]; rfl
      · have : ¬ fewLn (l.drop i) := by rw [hd]; simp [c2]
        simp only [c1', c2, decide_false, cond_false, if_false, this]; rfl
    · have c1' : (l[i].1.size : Int) > 2000 := by omega
      have : ¬ fewLn (l.drop i) := by rw [hd]; simp [c1]
      simp only [c1', decide_true, cond_true, if_false, this]
theorem few12 (nm : ByteArray) (a : Int) (cols : List C) (l : List Ln) (k : Nat) (hk : 2000 ≤ k) : transomlaw12_Few.f k nm a cols l = some (if (cols.length ≤ 20 ∧ nm.size ≤ 500 ∧ fewB cols) ∧ l.length ≤ 40 ∧ fewLn l then 1 else 0) := by
  obtain ⟨k, rfl⟩ : ∃ j, k = j + 2 := ⟨k - 2, by omega⟩
  simp only [transomlaw12_Few.f, transomlaw12_Few.c, transomlaw12_Few.s0, transomlaw12_Few.s0c, transomlaw12_Few.s1, transomlaw12_Few.s1c, few09 nm a cols (k + 2) (by omega), Option.bind_some, Option.bind_fun_some]
  by_cases h0 : cols.length ≤ 20 ∧ nm.size ≤ 500 ∧ fewB cols
  · by_cases h : l.length ≤ 40
    · have e : ¬ (l.length : Int) > 40 := by omega
      have h1 := few12_s2 l nm a cols h l.length 0 (by omega) k (by omega)
      have h1' : transomlaw12_Few.s2 k 0 nm a cols l = some (if fewLn l then 1 else 0) := h1
      rw [if_pos h0]
      simp only [e, h1', h0, h, decide_false, cond_false, true_and]
      rfl
    · have e : (l.length : Int) > 40 := by omega
      rw [if_pos h0]
      simp only [e, h, decide_true, cond_true, and_false, false_and, if_false]
      rfl
  · rw [if_neg h0]
    simp only [h0, false_and, if_false, beq_self_eq_true, cond_true]
theorem fit_lines {l : List Ln} (h : Fit (.sl T_api_Line) l) (hf : fewLn l) : ∀ x ∈ l, FewV x.2.1 := by
  intro x hx
  obtain ⟨_, h3⟩ := h
  obtain ⟨_, f2, _⟩ := h3 x hx
  exact fit_v f2 (hf x hx).2
end Go.Proofs.YtdbbkmmillnaiaaGreatDoor.Aev
