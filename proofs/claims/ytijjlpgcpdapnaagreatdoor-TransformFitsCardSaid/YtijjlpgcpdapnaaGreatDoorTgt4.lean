import Derived.Test.YtijjlpgcpdapnaaGreatDoorF7
import Derived.Test.YtijjlpgcpdapnaaGreatDoorF8
import Derived.Test.YtijjlpgcpdapnaaGreatDoorTgt3

/- Tables behind a change: what the program makes of them. -/
namespace Go.Proofs.YtijjlpgcpdapnaaGreatDoor.Aev
open Go
set_option linter.unusedVariables false
set_option linter.unusedSimpArgs false
set_option maxRecDepth 100000
def P3 (c : Ch) (t : Tb) (nm : ByteArray) (a : Int) (cols : List C) : Prop := nm = t.1 ∧ a = t.2.1 ∧ ∃ n : Nat, atC c t.2.2.1 = (n : Int) ∧ t.2.1 ≤ (n : Int) ∧ cols = del1 n t.2.2.1
theorem drop_t (c : Ch) (t : Tb) (ok : TabOK t.1 t.2.1 t.2.2.1) (k : Nat) (hk : 7000 ≤ k) : ∃ r, change_drop_targets.f k c [t] = some r ∧ OneR (P3 c t) r := by
 have hl := ok.len
 have hks := ok.keys
 have z : (true && decide ((0 : Int) < (([t] : List Tb).length : Int))) = true := rfl
 have hE : elem T_api_Table [t] (0 : Int) = t := rfl
 have h2 : schema_Find.f k t.1 t.2.1 t.2.2.1 c.2.2.2.2.2.1 = some (atC c t.2.2.1) := sfind_f t.1 t.2.1 t.2.2.1 c.2.2.2.2.2.1 (by omega) k (by omega)
 have hlt := atC_lt c t.2.2.1
 simp only [change_drop_targets.f, change_drop_targets.c, z, hE, h2, clone_eq (show 1 ≤ t.2.2.1.length by omega) (by omega), one_eq, cond_true, os]
 by_cases q : atC c t.2.2.1 < t.2.1
 ·rw [decide_eq_true q, cond_true]
  exact ⟨_, rfl, by show (10 : Int) ≠ 0; decide⟩
 ·rw [decide_eq_false q, cond_false]
  obtain ⟨n, hn⟩ : ∃ n : Nat, atC c t.2.2.1 = (n : Int) := ⟨(atC c t.2.2.1).toNat, by omega⟩
  have w1 : IntKind.wrap IntKind.i64 ((n : Int) + 1) = ((n + 1 : Nat) : Int) := by rw [i64w (by omega) (by omega)]; omega
  have d1 : (0 : Int) ≤ (n : Int) := by omega
  have d2 : (n : Int) ≤ ((n + 1 : Nat) : Int) := by omega
  have d3 : ((n + 1 : Nat) : Int) ≤ (t.2.2.1.length : Int) := by omega
  have hd : (del1 n t.2.2.1).length + 1 = t.2.2.1.length := by
   unfold del1; rw [List.length_append, List.length_take, List.length_drop]; omega
  rw [hn] at q ⊢
  simp only [w1, d1, d2, d3, decide_true, Bool.and_self, cond_true, Int.toNat_natCast, if_true]
  have h1 : 1 ≤ (del1 n t.2.2.1).length := by omega
  have h2 : (del1 n t.2.2.1).length ≤ 1000 := by omega
  exact ⟨.inr (0, t.1, t.2.1, del1 n t.2.2.1), rfl, rfl, h1, h2, rfl, rfl, n, hn, by omega, rfl⟩
abbrev knd (c : Ch) : Int := c.2.2.2.2.2.2.1
def P4 (c : Ch) (t : Tb) (nm : ByteArray) (a : Int) (cols : List C) : Prop := nm = t.1 ∧ a = t.2.1 ∧ ∃ n : Nat, ∃ h : n < t.2.2.1.length, atC c t.2.2.1 = (n : Int) ∧ t.2.1 ≤ (n : Int) ∧ canB (t.2.2.1[n]).2.1 (knd c) = true ∧ cols = t.2.2.1.set n (colK t.2.2.1[n] (knd c))
theorem retype_t (c : Ch) (t : Tb) (ht : FewT1 t) (ok : TabOK t.1 t.2.1 t.2.2.1) (k : Nat) (hk : 7000 ≤ k) : ∃ r, change_retype_targets.f k c [t] = some r ∧ OneR (P4 c t) r := by
 have hl := ok.len
 have hks := ok.keys
 have z : (true && decide ((0 : Int) < (([t] : List Tb).length : Int))) = true := rfl
 have hE : elem T_api_Table [t] (0 : Int) = t := rfl
 have h2 : schema_Find.f k t.1 t.2.1 t.2.2.1 c.2.2.2.2.2.1 = some (atC c t.2.2.1) := sfind_f t.1 t.2.1 t.2.2.1 c.2.2.2.2.2.1 (by omega) k (by omega)
 have hlt := atC_lt c t.2.2.1
 have hcan := fun a b => can_eq a b k (by omega)
 simp only [change_retype_targets.f, change_retype_targets.c, z, hE, h2, clone_eq (show 1 ≤ t.2.2.1.length by omega) (by omega), hcan, one_eq, cond_true, os]
 by_cases q : atC c t.2.2.1 < t.2.1
 ·rw [decide_eq_true q, cond_true]
  exact ⟨_, rfl, by show (10 : Int) ≠ 0; decide⟩
 ·rw [decide_eq_false q, cond_false]
  obtain ⟨n, hn⟩ : ∃ n : Nat, atC c t.2.2.1 = (n : Int) := ⟨(atC c t.2.2.1).toNat, by omega⟩
  have d1 : (0 : Int) ≤ (n : Int) := by omega
  have d3 : (n : Int) < (t.2.2.1.length : Int) := by omega
  have hlt' : n < t.2.2.1.length := by omega
  rw [hn] at q ⊢
  have hE2 : ∀ X : C, elem T_api_Col (t.2.2.1.set n X) (n : Int) = X := by
   intro X
   rw [elem_c (by rw [List.length_set]; exact hlt')]; simp
  simp only [d1, d3, decide_true, Bool.and_self, cond_true, Int.toNat_natCast, hE2, elem_c hlt']
  have hv := cv_eq (ht.2 t.2.2.1[n] (List.getElem_mem _)) (knd c) k (by omega)
  by_cases qc : canB (t.2.2.1[n]).2.1 (knd c) = true
  ·have qc' : (!canB (t.2.2.1[n]).2.1 c.2.2.2.2.2.2.1) = false := by rw [Bool.not_eq_false']; exact qc
   rw [qc', cond_false]
   simp only [hv, os, List.set_set, if_true]
   have h1 : 1 ≤ (t.2.2.1.set n (colK t.2.2.1[n] (knd c))).length := by rw [List.length_set]; omega
   have h2 : (t.2.2.1.set n (colK t.2.2.1[n] (knd c))).length ≤ 1000 := by rw [List.length_set]; omega
   exact ⟨.inr (0, t.1, t.2.1, t.2.2.1.set n (colK t.2.2.1[n] (knd c))), rfl, rfl, h1, h2, rfl, rfl, n, hlt', hn, by omega, qc, rfl⟩
  ·have qc' : (!canB (t.2.2.1[n]).2.1 c.2.2.2.2.2.2.1) = true := by simpa using qc
   rw [qc', cond_true]
   exact ⟨_, rfl, by show (5 : Int) ≠ 0; decide⟩
/-! ### a merge -/
theorem colseq_s0 (l m : List C) (hlen : l.length = m.length) (hl : l.length ≤ 1000) : ∀ (j i : Nat), i + j = l.length → ∀ k, j < k → ∃ b, api_Col_167.s0 k l m (l.length : Int) (i : Int) = some b := by
 intro j
 induction j with
 | zero =>
  intro i hi k hk
  obtain ⟨k, rfl⟩ : ∃ q, k = q + 1 := ⟨k - 1, by omega⟩
  have e : ¬ (i : Int) < (l.length : Int) := by omega
  exact ⟨true, by simp only [api_Col_167.s0, api_Col_167.s0c, e, decide_false, cond_false]⟩
 | succ j ih =>
  intro i hi k hk
  obtain ⟨k, rfl⟩ : ∃ q, k = q + 1 := ⟨k - 1, by omega⟩
  have e0 : (i : Int) < (l.length : Int) := by omega
  have e0' : (i : Int) < (m.length : Int) := by omega
  have e1 : (0 : Int) ≤ (i : Int) := by omega
  have e2 : IntKind.wrap IntKind.i64 ((i : Int) + 1) = ((i + 1 : Nat) : Int) := by rw [i64w (by omega) (by omega)]; omega
  obtain ⟨b, h1⟩ := ih (i + 1) (by omega) k (by omega)
  rw [api_Col_167.s0]
  simp only [api_Col_167.s0c, e0, e0', e1, e2, h1, decide_true, Bool.and_self, cond_true, os]
  have hx : ∀ x : Bool, ∃ b' : Bool, (bif x then some false else some b) = some b' := fun x => by
   cases x with
   | false => exact ⟨b, rfl⟩
   | true => exact ⟨false, rfl⟩
  exact hx _
theorem colseq (l m : List C) (hl : l.length ≤ 1000) (k : Nat) (hk : 1100 ≤ k) : ∃ b, api_Col_167.f k l m = some b := by
 by_cases c : (l.length : Int) = (m.length : Int)
 ·have c' : ((l.length : Int) != (m.length : Int)) = false := by rw [c]; simp
  obtain ⟨b, h⟩ := colseq_s0 l m (by omega) hl l.length 0 (by omega) k (by omega)
  have h' : api_Col_167.s0 k l m (l.length : Int) 0 = some b := h
  exact ⟨b, by simp only [api_Col_167.f, api_Col_167.c, c', cond_false, h', os]⟩
 ·have c' : ((l.length : Int) != (m.length : Int)) = true := bne_iff_ne.2 c
  exact ⟨false, by simp only [api_Col_167.f, api_Col_167.c, c', cond_true]⟩
abbrev toN (c : Ch) : ByteArray := c.2.2.2.1
abbrev alsoN (c : Ch) : ByteArray := c.2.2.2.2.1
def P6 (c : Ch) (t : Tb) (nm : ByteArray) (a : Int) (cols : List C) : Prop := nm = toN c ∧ nameS nm.data.toList = 0 ∧ a = t.2.1 ∧ cols = t.2.2.1
theorem merge_s1 (c : Ch) (nm : ByteArray) (a : Int) (l : List C) (h1 : 1 ≤ l.length) (h2 : l.length ≤ 1000) (e : Int) (k : Nat) : change_merge_targets.s1 (k + 1) e c nm a l = some (if e = 0 then .inr (0, toN c, a, l) else .inl e) := by
 simp only [change_merge_targets.s1, change_merge_targets.s1c, clone_eq h1 h2, one_eq, os]
 exact ends_one _ _ _ _ _ rfl _ rfl
theorem merge_s0 (c : Ch) (nm : ByteArray) (a : Int) (l : List C) (h1 : 1 ≤ l.length) (h2 : l.length ≤ 1000) (e : Int) (b : Bool) (k : Nat) : change_merge_targets.s0 (k + 2) e b c nm a l = some (if (if b = true then 11 else e) = 0 then .inr (0, toN c, a, l) else .inl (if b = true then 11 else e)) := by
 rw [change_merge_targets.s0]
 cases b with
 | true => simp only [change_merge_targets.s0c, cond_true, merge_s1 c nm a l h1 h2, os]; rfl
 | false => simp only [change_merge_targets.s0c, cond_false, merge_s1 c nm a l h1 h2, os]; rfl
theorem merge_t (c : Ch) (t u : Tb) (ok : TabOK t.1 t.2.1 t.2.2.1) (k : Nat) (hk : 7000 ≤ k) : ∃ r, change_merge_targets.f k c [t, u] = some r ∧ OneR (P6 c t) r := by
 obtain ⟨k, rfl⟩ : ∃ q, k = q + 2 := ⟨k - 2, by omega⟩
 have hl := ok.len
 have z0 : (true && decide ((0 : Int) < (([t, u] : List Tb).length : Int))) = true := rfl
 have z1 : (true && decide ((1 : Int) < (([t, u] : List Tb).length : Int))) = true := rfl
 have hE : elem T_api_Table [t, u] (0 : Int) = t := rfl
 have hE1 : elem T_api_Table [t, u] (1 : Int) = u := rfl
 have hn := ncheck_eq (toN c) (k + 2) (by omega)
 obtain ⟨b, hb⟩ := colseq t.2.2.1 u.2.2.1 (by omega) (k + 2) (by omega)
 have hs := fun e b => merge_s0 c t.1 t.2.1 t.2.2.1 (by omega) (by omega) e b k
 simp only [change_merge_targets.f, change_merge_targets.c, z0, z1, hE, hE1, hn, hb, hs, cond_true, os]
 by_cases q1 : (c.2.1.toList == c.2.2.1.toList) = true
 ·rw [q1, cond_true]; exact ⟨_, rfl, by show (12 : Int) ≠ 0; decide⟩
 ·rw [Bool.not_eq_true] at q1
  rw [q1, cond_false]
  by_cases q2 : nameS (toN c).data.toList = 0
  ·have q2' : (nameS (toN c).data.toList == 0) = true := beq_iff_eq.2 q2
   rw [q2', cond_true, q2]
   have hB : ∀ b : Bool, OneR (P6 c t) (if (if b = true then (11 : Int) else 0) = 0 then .inr (0, toN c, t.2.1, t.2.2.1) else .inl (if b = true then (11 : Int) else 0)) := by
    intro b
    cases b with
    | true => show (11 : Int) ≠ 0; decide
    | false =>
     have h1 : 1 ≤ t.2.2.1.length := by omega
     have h2 : t.2.2.1.length ≤ 1000 := by omega
     exact ⟨rfl, h1, h2, rfl, q2, rfl, rfl⟩
   by_cases q3 : (t.2.1 != u.2.1) = true
   ·rw [q3, cond_true]; exact ⟨_, rfl, hB true⟩
   ·rw [Bool.not_eq_true] at q3
    rw [q3, cond_false]; exact ⟨_, rfl, hB _⟩
  ·have q2' : (nameS (toN c).data.toList == 0) = false := beq_eq_false_iff_ne.2 q2
   rw [q2', cond_false]
   exact ⟨_, rfl, by rw [if_neg (by simpa using q2)]; exact q2⟩
end Go.Proofs.YtijjlpgcpdapnaaGreatDoor.Aev
