
/- Rows and keys that fit a table: the document's ways. -/
import Derived.Test.YtijjlpgcpdapnaaGreatDoorF7
import Derived.Test.YtijjlpgcpdapnaaGreatDoorFits
namespace Go.Proofs.YtijjlpgcpdapnaaGreatDoor.Aev
open Go
set_option linter.unusedVariables false
set_option linter.unusedSimpArgs false
set_option maxRecDepth 100000
theorem cols_kind : ∀ {l : List C}, colsS l = 0 → ∀ c ∈ l, c.2.1 ≠ 0
  | [], _, c, hc => by simp at hc
  | d :: l, h, c, hc => by
    simp only [colsS] at h
    split at h
    · rename_i h1; exact absurd h h1
    · rename_i h1
      rcases List.mem_cons.1 hc with rfl | hc
      · intro h0
        apply h1
        unfold colS
        split
        · assumption
        · rw [if_pos (by omega)]; decide
      · exact cols_kind h c hc
theorem tab_cols {nm : ByteArray} {a : Int} {cols : List C} (h : tabS nm a cols = 0) : colsS cols = 0 := by
  unfold tabS at h
  split at h
  · rename_i h1; exact absurd h h1
  · split at h
    · simp at h
    · split at h
      · simp at h
      · split at h
        · rename_i h1; exact absurd h h1
        · rename_i h1; simpa using h1
theorem rvchk_v {v : V} (h : ∃ n : Nat, v.2.2.1 = (n : Int) ∧ n < 18446744073709551616) {k : Nat} (hk : 200 ≤ k) : transomref04_Check.f k v.1 v.2.1 v.2.2.1 v.2.2.2.1 = some (chk v) := by
  obtain ⟨n, hn, hn2⟩ := h
  unfold chk
  rw [hn]
  exact rcheck_eq hn2 (by omega)
theorem rfits_s0 (l : List V) (hl : FewV l) (cols : List C) (hc : l.length ≤ cols.length) (hz : ∀ c ∈ cols, c.2.1 ≠ 0) (nm : ByteArray) (a : Int) : ∀ (m i : Nat), i + m = l.length → ∀ k, 3 * m + 300 < k → transomref09_fits.s0 k l (i : Int) nm a cols = some (fitsL (cols.drop i) (l.drop i)) := by
  intro m
  have hl1 := hl.1
  induction m with
  | zero =>
    intro i hi k hk
    obtain ⟨k, rfl⟩ : ∃ j, k = j + 1 := ⟨k - 1, by omega⟩
    have e : ¬ (i : Int) < (l.length : Int) := by omega
    rw [List.drop_eq_nil_of_le (show l.length ≤ i by omega)]
    simp only [transomref09_fits.s0, transomref09_fits.s0c, e, decide_false, cond_false]
    cases cols.drop i <;> rfl
  | succ m ih =>
    intro i hi k hk
    obtain ⟨k, rfl⟩ : ∃ j, k = j + 3 := ⟨k - 3, by omega⟩
    have hlt : i < l.length := by omega
    have hlt2 : i < cols.length := by omega
    have e0 : (i : Int) < (l.length : Int) := by omega
    have e0' : (i : Int) < (cols.length : Int) := by omega
    have e1 : (0 : Int) ≤ (i : Int) := by omega
    have e2 : IntKind.wrap IntKind.i64 ((i : Int) + 1) = ((i + 1 : Nat) : Int) := by rw [i64w (by omega) (by omega)]; omega
    have he := elem_v hlt
    have he2 := elem_c hlt2
    have h1 := ih (i + 1) (by omega) k (by omega)
    have h1' := ih (i + 1) (by omega) (k + 1) (by omega)
    have hv := rvchk_v (hl.2 l[i] (List.getElem_mem hlt)).2 (k := k + 2) (by omega)
    have hk0 : cols[i].2.1 ≠ 0 := hz _ (List.getElem_mem hlt2)
    rw [List.drop_eq_getElem_cons hlt, List.drop_eq_getElem_cons hlt2]
    simp only [transomref09_fits.s0, transomref09_fits.s0c, transomref09_fits.s1, transomref09_fits.s1c, transomref09_fits.s2, transomref09_fits.s2c, e0, e0', e1, e2, he, he2, hv, h1, h1', fitsL, bne_dec, beq_dec, decide_true, Bool.and_self, cond_true, Option.bind_some, Option.bind_fun_some]
    by_cases c : chk l[i] = 0
    · by_cases c3 : l[i].1 = 0
      · have c5 : ¬ (0 : Int) = cols[i].2.1 := fun h => hk0 h.symm
        cases c4 : cols[i].2.2.1 <;> simp [c, c3, c4, c5]
      · by_cases c2 : l[i].1 = cols[i].2.1
        · simp [c, c2, hk0]
        · simp [c, c2, c3]
    · simp [c]
theorem rfits_f (l : List V) (hl : FewV l) (cols : List C) (hc : l.length ≤ cols.length) (hz : ∀ c ∈ cols, c.2.1 ≠ 0) (nm : ByteArray) (a : Int) (k : Nat) (hk : 1000 ≤ k) : transomref09_fits.f k nm a cols l = some (fitsL cols l) := by
  have hl1 := hl.1
  have := rfits_s0 l hl cols hc hz nm a l.length 0 (by omega) k (by omega)
  simp only [transomref09_fits.f, transomref09_fits.c, Option.bind_fun_some]
  exact this
theorem rsfits_f (l : List V) (hl : FewV l) (cols : List C) (hc : FewL cols) (nm : ByteArray) (a : Int) (k : Nat) (hk : 7000 ≤ k) : transomref09_Fits.f k nm a cols l = some (fitsS nm a cols l) := by
  simp only [transomref09_Fits.f, transomref09_Fits.c, rscheck_f nm a hc hk, Option.bind_some, bne_dec]
  unfold fitsS
  by_cases c : tabS nm a cols = 0
  · by_cases c2 : l.length = cols.length
    · have e : (l.length : Int) = (cols.length : Int) := by omega
      simp only [c, c2, e, rfits_f l hl cols (by omega) (cols_kind (tab_cols c)) nm a k (by omega), decide_true, Bool.not_true, cond_false, ne_eq, not_true, if_false, Option.bind_some]
    · have e : ¬ (l.length : Int) = (cols.length : Int) := by omega
      simp only [c, c2, e, decide_true, decide_false, Bool.not_true, Bool.not_false, cond_false, cond_true, ne_eq, not_true, not_false_iff, if_false, if_true]
  · simp only [c, decide_false, Bool.not_false, cond_true, ne_eq, not_false_iff, if_true]
end Go.Proofs.YtijjlpgcpdapnaaGreatDoor.Aev
