import Derived.Test.YtimadphjdkjgaaaGreatDoorF13
import Derived.Test.YtimadphjdkjgaaaGreatDoorFew
import Derived.Test.YtimadphjdkjgaaaGreatDoorF16
import Derived.Test.YtimadphjdkjgaaaGreatDoorRdS
import Derived.Test.YtimadphjdkjgaaaGreatDoorF6
import Derived.Test.YtimadphjdkjgaaaGreatDoorWSplit

/- Rows that are the same. -/
namespace Go.Proofs.YtimadphjdkjgaaaGreatDoor.Aev
open Go
set_option linter.unusedVariables false
set_option linter.unusedSimpArgs false
set_option maxRecDepth 100000
theorem same_eq (a0 a1 a2 : Int) (a3 : ByteArray) (b0 b1 b2 : Int) (b3 : ByteArray) (k : Nat) : r04_Same.f k a0 a1 a2 a3 b0 b1 b2 b3 = some (decide (a0 = b0 ∧ a1 = b1 ∧ a2 = b2 ∧ a3 = b3)) := by
 simp only [r04_Same.f, r04_Same.c, cond_true, cond_false, if_b, decide_eq_true_eq, Bool.and_eq_true, Bool.or_eq_true, beq_iff_eq, bne_iff_ne, ne_eq, Bool.not_eq_true', Bool.not_eq_false', Bool.true_and, Bool.and_true, Bool.false_eq_true, if_false, if_true, true_and, and_true, os, Option.bind_none, ofs, beq_eq_false_iff_ne, decide_eq_false_iff_not, toList_iff]
 have e : (a3.toList == b3.toList) = decide (a3 = b3) := by rw [Bool.eq_iff_iff, beq_iff_eq, decide_eq_true_iff, toList_iff]
 rw [e]
 by_cases h0 : a0 = b0 <;> by_cases h1 : a1 = b1 <;> by_cases h2 : a2 = b2 <;> simp [h0, h1, h2]
theorem v_ext {v w : V} : (v.1 = w.1 ∧ v.2.1 = w.2.1 ∧ v.2.2.1 = w.2.2.1 ∧ v.2.2.2.1 = w.2.2.2.1) ↔ v = w := by
 obtain ⟨a, b, c, d, ⟨⟩⟩ := v
 obtain ⟨a', b', c', d', ⟨⟩⟩ := w
 simp
theorem samerow_s0 (l m : List V) (hlen : l.length = m.length) (hl : l.length ≤ 9223372036854775807) : ∀ (j i : Nat), i + j = l.length → ∀ k, j < k → r04_SameRow.s0 k l m (i : Int) = some (decide (l.drop i = m.drop i)) := by
 intro j
 induction j with
 | zero =>
  intro i hi k hk
  obtain ⟨k, rfl⟩ : ∃ j, k = j + 1 := ⟨k - 1, by omega⟩
  have e : ¬ (i : Int) < (l.length : Int) := by omega
  rw [List.drop_eq_nil_of_le (show l.length ≤ i by omega), List.drop_eq_nil_of_le (show m.length ≤ i by omega)]
  simp [r04_SameRow.s0, r04_SameRow.s0c, e]
 | succ j ih =>
  intro i hi k hk
  obtain ⟨k, rfl⟩ : ∃ j, k = j + 1 := ⟨k - 1, by omega⟩
  have hlt : i < l.length := by omega
  have hlt2 : i < m.length := by omega
  have e0 : (i : Int) < (l.length : Int) := by omega
  have e0' : (i : Int) < (m.length : Int) := by omega
  have e1 : (0 : Int) ≤ (i : Int) := by omega
  have e2 : IntKind.wrap IntKind.i64 ((i : Int) + 1) = ((i + 1 : Nat) : Int) := by rw [i64w (by omega) (by omega)]; omega
  have := ih (i + 1) (by omega) k (by omega)
  simp only [r04_SameRow.s0, r04_SameRow.s0c, e0, e0', e1, e2, elem_at hlt, elem_at hlt2, same_eq, this, v_ext, decide_true, Bool.and_self, cond_true, os, ofs, List.drop_eq_getElem_cons hlt, List.drop_eq_getElem_cons hlt2, List.cons.injEq]
  by_cases c : l[i] = m[i]
  ·simp [c]
  ·simp [c]
theorem samerow_eq (l m : List V) (hl : l.length ≤ 9223372036854775807) (k : Nat) (hk : l.length < k) : r04_SameRow.f k l m = some (decide (l = m)) := by
 simp only [r04_SameRow.f, r04_SameRow.c, ofs]
 by_cases h : l.length = m.length
 ·have e : ((l.length : Int) != (m.length : Int)) = false := by rw [bne_eq_false_iff_eq]; omega
  rw [e]
  exact samerow_s0 l m h hl l.length 0 (by omega) k hk
 ·have e : ((l.length : Int) != (m.length : Int)) = true := by rw [bne_iff_ne]; omega
  rw [e, decide_eq_false (fun q => h (by rw [q]))]; rfl
end Go.Proofs.YtimadphjdkjgaaaGreatDoor.Aev

/- Tables that are the same. -/
namespace Go.Proofs.YtimadphjdkjgaaaGreatDoor.Aev
open Go
set_option linter.unusedVariables false
set_option linter.unusedSimpArgs false
set_option maxRecDepth 100000
theorem samev_eq (a0 a1 a2 : Int) (a3 : ByteArray) (b0 b1 b2 : Int) (b3 : ByteArray) (k : Nat) : r04_Same.f k a0 a1 a2 a3 b0 b1 b2 b3 = some (decide (a0 = b0 ∧ a1 = b1 ∧ a2 = b2 ∧ a3 = b3)) := by
 simp only [r04_Same.f, r04_Same.c, cond_true, cond_false, if_b, decide_eq_true_eq, Bool.and_eq_true, Bool.or_eq_true, beq_iff_eq, bne_iff_ne, ne_eq, Bool.not_eq_true', Bool.not_eq_false', Bool.true_and, Bool.and_true, Bool.false_eq_true, if_false, if_true, true_and, and_true, os, Option.bind_none, ofs, beq_eq_false_iff_ne, decide_eq_false_iff_not, toList_iff]
 have e : (a3.toList == b3.toList) = decide (a3 = b3) := by rw [Bool.eq_iff_iff, beq_iff_eq, decide_eq_true_iff, toList_iff]
 rw [e]
 by_cases h0 : a0 = b0 <;> by_cases h1 : a1 = b1 <;> by_cases h2 : a2 = b2 <;> simp [h0, h1, h2]
theorem samecol_refl (c : C) (k : Nat) : r09_SameCol.f k c.1 c.2.1 c.2.2.1 c.2.2.2.1.1 c.2.2.2.1.2.1 c.2.2.2.1.2.2.1 c.2.2.2.1.2.2.2.1 c.1 c.2.1 c.2.2.1 c.2.2.2.1.1 c.2.2.2.1.2.1 c.2.2.2.1.2.2.1 c.2.2.2.1.2.2.2.1 = some true := by
 simp only [r09_SameCol.f, r09_SameCol.c, beq_self_eq_true, cond_true, samev_eq, and_self, decide_true, os]
theorem samecols_s0 (l : List C) (hl : l.length ≤ 1000) : ∀ (m i : Nat), i + m = l.length → ∀ k, m < k → r09_SameCols.s0 k l l (i : Int) = some true := by
 intro m
 induction m with
 | zero =>
  intro i hi k hk
  obtain ⟨k, rfl⟩ : ∃ j, k = j + 1 := ⟨k - 1, by omega⟩
  have e : ¬ (i : Int) < (l.length : Int) := by omega
  simp only [r09_SameCols.s0, r09_SameCols.s0c, e, decide_false, cond_false]
 | succ m ih =>
  intro i hi k hk
  obtain ⟨k, rfl⟩ : ∃ j, k = j + 1 := ⟨k - 1, by omega⟩
  have hlt : i < l.length := by omega
  have e0 : (i : Int) < (l.length : Int) := by omega
  have e1 : (0 : Int) ≤ (i : Int) := by omega
  have e2 : IntKind.wrap IntKind.i64 ((i : Int) + 1) = ((i + 1 : Nat) : Int) := by rw [i64w (by omega) (by omega)]; omega
  have he := elem_c hlt
  have h1 := ih (i + 1) (by omega) k (by omega)
  simp only [r09_SameCols.s0, r09_SameCols.s0c, e0, e1, e2, he, h1, samecol_refl, decide_true, Bool.and_self, cond_true, Bool.not_true, cond_false, os, ofs]
theorem same_refl (nm : ByteArray) (a : Int) (l : List C) (hl : l.length ≤ 1000) (k : Nat) (hk : 1100 ≤ k) : r09_Same.f k nm a l nm a l = some true := by
 have h := samecols_s0 l hl l.length 0 (by omega) k (by omega)
 have h' : r09_SameCols.s0 k l l 0 = some true := h
 simp only [r09_Same.f, r09_Same.c, r09_SameCols.f, r09_SameCols.c, beq_self_eq_true, bne_self_eq_false, cond_true, cond_false, h', os, ofs]
end Go.Proofs.YtimadphjdkjgaaaGreatDoor.Aev

/- A step is the same as itself. -/
namespace Go.Proofs.YtimadphjdkjgaaaGreatDoor.Aev
open Go
set_option linter.unusedVariables false
set_option linter.unusedSimpArgs false
set_option maxRecDepth 100000
theorem samech_refl (c : Ch) (h1 : c.2.2.2.2.2.2.2.1.length ≤ 1000) (h2 : c.2.2.2.2.2.2.2.2.2.1.2.2.1.length ≤ 1000) (k : Nat) (hk : 3000 ≤ k) : r14_SameChange.f k c c = some true := by
 have t' := texts_eq c.2.2.2.2.2.2.2.1 (by omega) k (by omega)
 have s1 := samecol_refl c.2.2.2.2.2.2.2.2.1 k
 have s2 := same_refl c.2.2.2.2.2.2.2.2.2.1.1 c.2.2.2.2.2.2.2.2.2.1.2.1 c.2.2.2.2.2.2.2.2.2.1.2.2.1 h2 k (by omega)
 simp only [r14_SameChange.f, r14_SameChange.c, beq_self_eq_true, bne_self_eq_false, cond_true, cond_false, t', s1, s2, os, ofs]
theorem samerow_refl (l : List V) (h : l.length ≤ 8) (k : Nat) (hk : 100 ≤ k) : r06_Same.f k l l = some true := by
 have := samerow_eq l l (by omega) k (by omega)
 simp only [r06_Same.f, r06_Same.c, this, decide_true, os]
theorem same_st {s : Sp} (h : SmallS s) (k : Nat) (hk : 3000 ≤ k) : transomlaw37_Same.f k s s = some 1 := by
 have r1 := samerow_refl _ h.row k (by omega)
 have r2 := samerow_refl _ h.lo k (by omega)
 have r3 := samerow_refl _ h.hi k (by omega)
 have c := samech_refl _ h.ch.1 h.ch.2 k hk
 simp only [transomlaw37_Same.f, transomlaw37_Same.c, beq_self_eq_true, bne_self_eq_false, Bool.not_true, cond_true, cond_false, r1, r2, r3, c, os, ofs]
end Go.Proofs.YtimadphjdkjgaaaGreatDoor.Aev

/- A text's lines: what strings.Split at line ends gives. -/
namespace Go.Proofs.YtimadphjdkjgaaaGreatDoor.Aev
open Go
set_option linter.unusedVariables false
set_option linter.unusedSimpArgs false
set_option maxRecDepth 100000
def lnsL : List UInt8 → List (List UInt8)
 | [] => [[]]
 | c :: l => if c = 10 then [] :: lnsL l else match lnsL l with
  | [] => [[c]]
  | x :: r => (c :: x) :: r
theorem lns_eol (l : List UInt8) : lnsL (10 :: l) = [] :: lnsL l := by rw [lnsL, if_pos rfl]
theorem lns_ne : ∀ l : List UInt8, ∃ x r, lnsL l = x :: r
 | [] => ⟨[], [], rfl⟩
 | c :: l => by
  by_cases h : c = 10
  ·exact ⟨_, _, by rw [lnsL, if_pos h]⟩
  ·obtain ⟨x, r, e⟩ := lns_ne l
   exact ⟨_, _, by rw [lnsL, if_neg h, e]⟩
theorem lns_cons {c : UInt8} (h : ¬ c = 10) {l x : List UInt8} {r : List (List UInt8)} (e : lnsL l = x :: r) : lnsL (c :: l) = (c :: x) :: r := by rw [lnsL, if_neg h, e]
theorem lns_app : ∀ (a : List UInt8), (∀ c ∈ a, ¬ c = 10) → ∀ {l x : List UInt8} {r : List (List UInt8)}, lnsL l = x :: r → lnsL (a ++ l) = (a ++ x) :: r
 | [], _, l, x, r, e => e
 | c :: a, h, l, x, r, e => lns_cons (h c (by simp)) (lns_app a (fun d hd => h d (List.mem_cons_of_mem _ hd)) e)
theorem lns_line (a : List UInt8) (h : ∀ c ∈ a, ¬ c = 10) (l : List UInt8) : lnsL (a ++ 10 :: l) = a :: lnsL l := by
 rw [lns_app a h (lns_eol l), List.append_nil]
theorem splitK_succ (sep s : List UInt8) (k : Nat) : Lib.splitK sep 0 (k + 1) s = if Lib.index s sep == -1 then [s] else s.take ((Lib.index s sep).toNat + 0) :: Lib.splitK sep 0 k (s.drop ((Lib.index s sep).toNat + sep.length)) := rfl
theorem splitK_ne (b c : UInt8) (h : b ≠ c) : ∀ (k : Nat) (l : List UInt8), ∃ x r, Lib.splitK [c] 0 k l = x :: r ∧ Lib.splitK [c] 0 k (b :: l) = (b :: x) :: r
 | 0, l => ⟨l, [], rfl, rfl⟩
 | k + 1, l => by
  have hp : ([c] : List UInt8).isPrefixOf (b :: l) = false := by simp [List.isPrefixOf, Ne.symm h]
  have hix : Lib.index (b :: l) [c] = if Lib.index l [c] == -1 then -1 else Lib.index l [c] + 1 := by rw [Lib.index, hp]; simp
  by_cases hm : Lib.index l [c] = -1
  ·have hb : Lib.index (b :: l) [c] = -1 := by rw [hix, if_pos (beq_iff_eq.2 hm)]
   refine ⟨l, [], ?_, ?_⟩
   ·rw [splitK_succ, if_pos (beq_iff_eq.2 hm)]
   ·rw [splitK_succ, if_pos (beq_iff_eq.2 hb)]
  ·have hge := Lib.index_ge l [c]
   obtain ⟨j, hj⟩ : ∃ j : Nat, Lib.index l [c] = j := ⟨(Lib.index l [c]).toNat, by omega⟩
   have hb : Lib.index (b :: l) [c] = ((j + 1 : Nat) : Int) := by rw [hix, if_neg (fun e => hm (beq_iff_eq.1 e)), hj]; omega
   have n1 : ¬ (Lib.index l [c] == -1) = true := fun e => hm (beq_iff_eq.1 e)
   have n2 : ¬ (Lib.index (b :: l) [c] == -1) = true := fun e => by have := beq_iff_eq.1 e; omega
   refine ⟨l.take j, Lib.splitK [c] 0 k (l.drop (j + 1)), ?_, ?_⟩
   ·rw [splitK_succ, if_neg n1, hj]; rfl
   ·rw [splitK_succ, if_neg n2, hb]; rfl
theorem split_lns : ∀ l : List UInt8, Lib.splitK [10] 0 (Lib.count l [10]) l = lnsL l
 | [] => by rw [Lib.count_miss (by simp [Lib.index])]; rfl
 | b :: l => by
  by_cases h : b = 10
  ·subst h
   have hix : Lib.index ((10 : UInt8) :: l) [10] = ((0 : Nat) : Int) := by rw [Lib.index]; simp [List.isPrefixOf]
   have n2 : ¬ (Lib.index ((10 : UInt8) :: l) [10] == -1) = true := fun e => by have := beq_iff_eq.1 e; omega
   rw [Lib.count_cons_eq, Nat.add_comm, lns_eol, ← split_lns l]
   rw [splitK_succ, if_neg n2, hix]; rfl
  ·obtain ⟨x, r, e1, e2⟩ := splitK_ne b 10 h (Lib.count l [10]) l
   rw [Lib.count_cons_ne b 10 l h, e2]
   rw [split_lns l] at e1
   exact (lns_cons h e1).symm
theorem splitB_lns (t : List UInt8) : Lib.splitB (mkW [10]) 0 (Lib.countB (mkW t) (mkW [10])) (mkW t) = (lnsL t).map mkW := by
 have h := Lib.splitB_data (mkW [10]) 0 (Lib.countB (mkW t) (mkW [10])) (mkW t)
 have h2 := split_lns t
 have h3 : (Lib.splitB (mkW [10]) 0 (Lib.countB (mkW t) (mkW [10])) (mkW t)).map (·.data.toList) = lnsL t := h.trans h2
 rw [← h3, List.map_map]
 refine (List.map_id' _).symm.trans (List.map_congr_left fun s _ => ?_)
 exact ba_of s
theorem ssplit_f (t : List UInt8) (h : t.length ≤ 1000000000) (k : Nat) : strings_Split.f k (mkW t) (mkW [10]) = some ((lnsL t).map mkW) := by
 unfold strings_Split.f
 show (if (mkW t).size ≤ 1000000000 then _ else none) = _
 rw [if_pos (by rw [ba_size]; exact h)]
 exact congrArg some (splitB_lns t)
theorem lns_count : ∀ l : List UInt8, (lnsL l).length ≤ l.length + 1
 | [] => Nat.le_refl _
 | c :: l => by
  have ih := lns_count l
  by_cases h : c = 10
  ·rw [lnsL, if_pos h]; simp; omega
  ·obtain ⟨x, r, e⟩ := lns_ne l
   rw [lns_cons h e]; rw [e] at ih; simp at ih ⊢; omega
theorem lns_len : ∀ l : List UInt8, ∀ x ∈ lnsL l, x.length ≤ l.length
 | [], x, hx => by simp [lnsL] at hx; simp [hx]
 | c :: l, x, hx => by
  have ih := lns_len l
  by_cases h : c = 10
  ·rw [lnsL, if_pos h] at hx
   cases List.mem_cons.1 hx with
   | inl e => subst e; simp
   | inr e => have := ih x e; simp; omega
  ·obtain ⟨y, r, e⟩ := lns_ne l
   rw [lns_cons h e] at hx
   rw [e] at ih
   cases List.mem_cons.1 hx with
   | inl q => subst q; have := ih y (by simp); simp; omega
   | inr q => have := ih x (List.mem_cons_of_mem _ q); simp; omega
end Go.Proofs.YtimadphjdkjgaaaGreatDoor.Aev
