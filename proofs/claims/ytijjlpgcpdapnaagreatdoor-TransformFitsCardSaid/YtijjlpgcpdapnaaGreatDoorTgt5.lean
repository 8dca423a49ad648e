import Derived.Test.YtijjlpgcpdapnaaGreatDoorF3
import Derived.Test.YtijjlpgcpdapnaaGreatDoorF8
import Derived.Test.YtijjlpgcpdapnaaGreatDoorTgt4

/- Tables behind a change: the two of a split. -/
namespace Go.Proofs.YtijjlpgcpdapnaaGreatDoor.Aev
open Go
set_option linter.unusedVariables false
set_option linter.unusedSimpArgs false
set_option maxRecDepth 100000
theorem errno2 (a b : Int) (k : Nat) (hk : 3 ≤ k) : api_Errno.f k [a, b] = some (if a ≠ 0 then a else b) := by
 obtain ⟨k, rfl⟩ : ∃ q, k = q + 3 := ⟨k - 3, by omega⟩
 have l0 : (([a, b] : List Int).length : Int) = 2 := rfl
 have E0 : elem (Ty.int .i64) [a, b] (0 : Int) = a := rfl
 have E1 : elem (Ty.int .i64) [a, b] (1 : Int) = b := rfl
 have w0 : IntKind.wrap .i64 ((0 : Int) + 1) = 1 := by rw [i64w (by omega) (by omega)]; rfl
 have w1 : IntKind.wrap .i64 ((1 : Int) + 1) = 2 := by rw [i64w (by omega) (by omega)]; rfl
 have a0 : decide ((0 : Int) < 2) = true := rfl
 have a1 : decide ((1 : Int) < 2) = true := rfl
 have a2 : decide ((2 : Int) < 2) = false := rfl
 have b0 : decide ((0 : Int) ≤ 0) = true := rfl
 have b1 : decide ((0 : Int) ≤ 1) = true := rfl
 simp only [api_Errno.f, api_Errno.c, api_Errno.s0, api_Errno.s0c, l0, E0, E1, w0, w1, a0, a1, a2, b0, b1, Bool.and_self, cond_true, cond_false, os, ofs]
 by_cases q : a = 0
 ·have q' : (a != 0) = false := by rw [q]; rfl
  rw [q', cond_false, if_neg (by simpa using q)]
  by_cases q2 : b = 0
  ·have q2' : (b != 0) = false := by rw [q2]; rfl
   rw [q2', cond_false, q2]
  ·have q2' : (b != 0) = true := bne_iff_ne.2 q2
   rw [q2', cond_true]
 ·have q' : (a != 0) = true := bne_iff_ne.2 q
  rw [q', cond_true, if_pos q]
abbrev TwoT : Type := Int ⊕ (Int × ByteArray × Int × ByteArray × Int × List C × List C)
theorem split_s3 (c : Ch) (hn : (namesC c).length ≤ 60) (nm : ByteArray) (a : Int) (n1 : ByteArray) (a1 : Int) (n2 : ByteArray) (a2 : Int) (l : List C) (hl : l.length ≤ 1000) : ∀ (m i : Nat) (xs ys : List C), i + m = l.length → xs.length ≤ i → ys.length ≤ i → ∀ k, m + 1200 < k →
  change_split_targets.s3 k l (l.length : Int) (i : Int) c nm a l n1 a1 n2 a2 xs ys = some (.inr (0, n1, a1, n2, a2, xs ++ selA a (namesC c) i (l.drop i), ys ++ selB a (namesC c) i (l.drop i))) := by
 intro m
 induction m with
 | zero =>
  intro i xs ys hi hx hy k hk
  obtain ⟨k, rfl⟩ : ∃ q, k = q + 1 := ⟨k - 1, by omega⟩
  have e : ¬ (i : Int) < (l.length : Int) := by omega
  rw [List.drop_eq_nil_of_le (by omega), change_split_targets.s3]
  simp only [change_split_targets.s3c, e, decide_false, cond_false, selA, selB, List.append_nil]
 | succ m ih =>
  intro i xs ys hi hx hy k hk
  obtain ⟨k, rfl⟩ : ∃ q, k = q + 1 := ⟨k - 1, by omega⟩
  have hlt : i < l.length := by omega
  have e0 : (i : Int) < (l.length : Int) := by omega
  have e1 : (0 : Int) ≤ (i : Int) := by omega
  have e2 : IntKind.wrap IntKind.i64 ((i : Int) + 1) = ((i + 1 : Nat) : Int) := by rw [i64w (by omega) (by omega)]; omega
  have hc : slices_Contains_string_string.f k c.2.2.2.2.2.2.2.1 l[i].1 = some (inB l[i].1 (namesC c)) := contains_eq (namesC c) l[i].1 (by omega) k (by omega)
  have z1 : (xs.length + 1) * 72 ≤ 2 ^ 45 := by omega
  have z2 : (ys.length + 1) * 72 ≤ 2 ^ 45 := by omega
  have hA : ∀ xs' ys' : List C, xs'.length ≤ i + 1 → ys'.length ≤ i + 1 → change_split_targets.s3 k l (l.length : Int) ((i + 1 : Nat) : Int) c nm a l n1 a1 n2 a2 xs' ys' = some (.inr (0, n1, a1, n2, a2, xs' ++ selA a (namesC c) (i + 1) (l.drop (i + 1)), ys' ++ selB a (namesC c) (i + 1) (l.drop (i + 1)))) := fun xs' ys' hx' hy' => ih (i + 1) xs' ys' (by omega) hx' hy' k (by omega)
  have g1 : xs.length ≤ i + 1 := by omega
  have g2 : ys.length ≤ i + 1 := by omega
  have g3 : (xs ++ [l[i]]).length ≤ i + 1 := by rw [List.length_append, List.length_singleton]; omega
  have g4 : (ys ++ [l[i]]).length ≤ i + 1 := by rw [List.length_append, List.length_singleton]; omega
  have k1 := hA xs (ys ++ [l[i]]) g1 g4
  have k2 := hA (xs ++ [l[i]]) ys g3 g2
  have k3 := hA (xs ++ [l[i]]) (ys ++ [l[i]]) g3 g4
  rw [List.drop_eq_getElem_cons hlt, change_split_targets.s3]
  simp only [change_split_targets.s3c, e0, e1, e2, elem_c hlt, hc, z1, z2, k1, k2, k3, decide_true, Bool.and_self, cond_true, os, selA, selB]
  have tf : (true == false) = false := rfl
  have ff : (false == false) = true := rfl
  have ft : (false == true) = false := rfl
  have tt : (true == true) = true := rfl
  by_cases q : (i : Int) < a
  ·rw [if_pos (.inl q), if_pos (.inl q)]
   simp only [q, decide_true, cond_true, List.append_assoc, List.singleton_append]
  ·cases hb : inB l[i].1 (namesC c) with
   | true =>
    rw [if_pos (.inr rfl), if_neg (by rintro (h | h); exact q h; cases h)]
    simp only [q, decide_false, cond_true, cond_false, tf, tt, List.append_assoc, List.singleton_append]
   | false =>
    rw [if_neg (by rintro (h | h); exact q h; cases h), if_pos (.inr rfl)]
    simp only [q, decide_false, cond_true, cond_false, ft, ff, List.append_assoc, List.singleton_append]
theorem split_s0 (c : Ch) (hn : (namesC c).length ≤ 60) (nm : ByteArray) (a : Int) (l : List C) (hl : l.length ≤ 1000) : ∀ (m i : Nat), i + m = (namesC c).length → ∀ k, 3 * m + 3000 < k →
  ∃ r : TwoT, change_split_targets.s0 k (namesC c) ((namesC c).length : Int) (i : Int) c nm a l = some r ∧ (r = .inl 10 ∨ r = .inr (0, toN c, a, alsoN c, a, selA a (namesC c) 0 l, selB a (namesC c) 0 l)) := by
 intro m
 induction m with
 | zero =>
  intro i hi k hk
  obtain ⟨k, rfl⟩ : ∃ q, k = q + 1 := ⟨k - 1, by omega⟩
  have e : ¬ (i : Int) < ((namesC c).length : Int) := by omega
  have h3 := split_s3 c hn nm a (toN c) a (alsoN c) a l hl l.length 0 [] [] (by omega) (Nat.le_refl _) (Nat.le_refl _) k (by omega)
  have h3' : change_split_targets.s3 k l (l.length : Int) 0 c nm a l (toN c) a (alsoN c) a [] [] = some (.inr (0, toN c, a, alsoN c, a, selA a (namesC c) 0 l, selB a (namesC c) 0 l)) := h3
  rw [change_split_targets.s0]
  simp only [change_split_targets.s0c, e, decide_false, cond_false, h3', os]
  exact ⟨_, rfl, .inr rfl⟩
 | succ m ih =>
  intro i hi k hk
  obtain ⟨k, rfl⟩ : ∃ q, k = q + 3 := ⟨k - 3, by omega⟩
  have hlt : i < (namesC c).length := by omega
  have e0 : (i : Int) < ((namesC c).length : Int) := by omega
  have e1 : (0 : Int) ≤ (i : Int) := by omega
  have e2 : IntKind.wrap IntKind.i64 ((i : Int) + 1) = ((i + 1 : Nat) : Int) := by rw [i64w (by omega) (by omega)]; omega
  obtain ⟨r, h1, hr⟩ := ih (i + 1) (by omega) k (by omega)
  have h2 : change_split_targets.s2 (k + 1) (namesC c) ((namesC c).length : Int) (i : Int) c nm a l = some r := by
   rw [change_split_targets.s2]; simp only [change_split_targets.s2c, e2, h1, os]
  have hs : ∀ b, ∃ r : TwoT, change_split_targets.s1 (k + 2) (namesC c) ((namesC c).length : Int) (i : Int) b c nm a l = some r ∧ (r = .inl 10 ∨ r = .inr (0, toN c, a, alsoN c, a, selA a (namesC c) 0 l, selB a (namesC c) 0 l)) := by
   intro b
   rw [change_split_targets.s1]
   cases b with
   | true => exact ⟨.inl 10, by simp only [change_split_targets.s1c, cond_true], .inl rfl⟩
   | false => exact ⟨r, by simp only [change_split_targets.s1c, cond_false, h2, os], hr⟩
  have hf := sfind_f nm a l (namesC c)[i] (by omega) (k + 2) (by omega)
  have hi : names_Find.f (k + 2) c.2.2.2.2.2.2.2.1 (namesC c)[i] = some (place (findS (namesC c)[i] (namesC c)) 0) := find_eq (namesC c) (namesC c)[i] (by omega) (k + 2) (by omega)
  rw [change_split_targets.s0]
  simp only [change_split_targets.s0c, e0, e1, elem_str hlt, hf, hi, decide_true, Bool.and_self, cond_true, os, ofs]
  by_cases q : place (findS (namesC c)[i] (namesOf l)) 0 < a
  ·rw [decide_eq_true q, cond_true]; exact hs _
  ·rw [decide_eq_false q, cond_false]; exact hs _
def P5 (c : Ch) (t : Tb) (r : TwoT) : Prop := match r with
 | .inl e => e ≠ 0
 | .inr q => q = (0, toN c, t.2.1, alsoN c, t.2.1, selA t.2.1 (namesC c) 0 t.2.2.1, selB t.2.1 (namesC c) 0 t.2.2.1) ∧ nameS (toN c).data.toList = 0 ∧ nameS (alsoN c).data.toList = 0
theorem split_t (c : Ch) (hn : (namesC c).length ≤ 60) (t : Tb) (ok : TabOK t.1 t.2.1 t.2.2.1) (k : Nat) (hk : 7000 ≤ k) : ∃ r : TwoT, change_split_targets.f k c [t] = some r ∧ P5 c t r := by
 have hl := ok.len
 have z : (true && decide ((0 : Int) < (([t] : List Tb).length : Int))) = true := rfl
 have hE : elem T_api_Table [t] (0 : Int) = t := rfl
 have h1 := ncheck_eq (toN c) k (by omega)
 have h2 := ncheck_eq (alsoN c) k (by omega)
 have he := errno2 (nameS (toN c).data.toList) (nameS (alsoN c).data.toList) k (by omega)
 obtain ⟨r, h3, h4⟩ := split_s0 c hn t.1 t.2.1 t.2.2.1 (by omega) (namesC c).length 0 (by omega) k (by omega)
 have h3' : change_split_targets.s0 k c.2.2.2.2.2.2.2.1 (c.2.2.2.2.2.2.2.1.length : Int) 0 c t.1 t.2.1 t.2.2.1 = some r := h3
 simp only [change_split_targets.f, change_split_targets.c, z, hE, h1, h2, he, h3', cond_true, os]
 by_cases q1 : nameS (toN c).data.toList = 0
 ·rw [if_neg (by simpa using q1)]
  by_cases q2 : nameS (alsoN c).data.toList = 0
  ·have q2' : (nameS (alsoN c).data.toList != 0) = false := by rw [q2]; rfl
   rw [q2', cond_false]
   by_cases q3 : (c.2.2.2.1.toList == c.2.2.2.2.1.toList) = true
   ·rw [q3, cond_true]; exact ⟨_, rfl, by show (12 : Int) ≠ 0; decide⟩
   ·rw [Bool.not_eq_true] at q3
    rw [q3, cond_false]
    refine ⟨r, rfl, ?_⟩
    rcases h4 with rfl | rfl
    ·show (10 : Int) ≠ 0; decide
    ·exact ⟨rfl, q1, q2⟩
  ·have q2' : (nameS (alsoN c).data.toList != 0) = true := bne_iff_ne.2 q2
   rw [q2', cond_true]; exact ⟨_, rfl, q2⟩
 ·have q1' : (nameS (toN c).data.toList != 0) = true := bne_iff_ne.2 q1
  rw [if_pos q1, q1', cond_true]; exact ⟨_, rfl, q1⟩
end Go.Proofs.YtijjlpgcpdapnaaGreatDoor.Aev
