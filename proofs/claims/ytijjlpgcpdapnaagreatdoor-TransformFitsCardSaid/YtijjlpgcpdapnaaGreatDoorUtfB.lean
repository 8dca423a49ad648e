import Derived.Test.YtijjlpgcpdapnaaGreatDoorF1
import Derived.Test.YtijjlpgcpdapnaaGreatDoorUtfA

/- All characters of a text; the document's package utf. -/
namespace Go.Proofs.YtijjlpgcpdapnaaGreatDoor.Aev
open Go
set_option linter.unusedVariables false
set_option linter.unusedSimpArgs false
set_option maxRecDepth 100000
theorem cont_ok (w : Nat) : ∀ (n r lo hi : Nat) (t : List UInt8) (q m : Int), contS w n r lo hi t = (q, m, 0) → m = w ∧ n ≤ t.length := by
 intro n
 induction n with
 | zero => intro r lo hi t q m h; simp [contS] at h; exact ⟨h.2.symm, by omega⟩
 | succ n ih =>
  intro r lo hi t q m h
  cases t with
  | nil => simp [contS] at h
  | cons c t =>
   rw [contS] at h
   split at h
   ·simp at h
   ·obtain ⟨a, b⟩ := ih _ _ _ _ _ _ h
    exact ⟨a, by simp; omega⟩
theorem next_ok {l : List UInt8} {r n : Int} (h : nextS l = (r, n, 0)) : 1 ≤ n ∧ n ≤ 4 ∧ n ≤ l.length := by
 cases l with
 | nil => simp [nextS] at h
 | cons c t =>
  obtain ⟨f1, f2, f3⟩ := first_range c.toNat c.toNat_lt
  rw [nextS] at h
  split at h
  ·simp at h
  ·obtain ⟨a, b⟩ := cont_ok _ _ _ _ _ _ _ _ h
   simp only [List.length_cons]
   omega
inductive Rdc : List UInt8 → List Int → Bool → Prop
 | nil : Rdc [] [] true
 | bad {l : List UInt8} {r n e : Int} : l ≠ [] → nextS l = (r, n, e) → e ≠ 0 → Rdc l [] false
 | cons {l : List UInt8} {r n : Int} {rs : List Int} {b : Bool} : l ≠ [] → nextS l = (r, n, 0) → Rdc (l.drop n.toNat) rs b → Rdc l (r :: rs) b
theorem rd_ex : ∀ (m : Nat) (l : List UInt8), l.length ≤ m → ∃ rs b, Rdc l rs b := by
 intro m
 induction m with
 | zero =>
  intro l h
  obtain rfl : l = [] := List.eq_nil_of_length_eq_zero (by omega)
  exact ⟨_, _, .nil⟩
 | succ m ih =>
  intro l h
  by_cases hn : l = []
  ·subst hn; exact ⟨_, _, .nil⟩
  ·obtain ⟨r, n, e, hq⟩ : ∃ r n e, nextS l = (r, n, e) := ⟨_, _, _, rfl⟩
   by_cases he : e = 0
   ·subst he
    have := next_ok hq
    obtain ⟨rs, b, hr⟩ := ih (l.drop n.toNat) (by rw [List.length_drop]; omega)
    exact ⟨_, _, .cons hn hq hr⟩
   ·exact ⟨_, _, .bad hn hq he⟩
theorem count_s0 {l : List UInt8} {rs : List Int} {b : Bool} (h : Rdc l rs b) : ∀ (s : ByteArray) (x k : Nat), s.data.toList = l → s.size ≤ 140737488351232 → x + l.length ≤ 140737488351232 → l.length + 30 ≤ k →
  utf_Count.s0 k s x = some (if b = true then ((x + rs.length : Nat) : Int) else -1) := by
 induction h with
 | nil =>
  intro s x k hs hz hx hk
  obtain ⟨k, rfl⟩ : ∃ j, k = j + 1 := ⟨k - 1, by omega⟩
  simp only [utf_Count.s0, utf_Count.s0c, cond_true, cond_false, if_b, decide_eq_true_eq, Bool.and_eq_true, Bool.or_eq_true, beq_iff_eq, bne_iff_ne, ne_eq, Bool.not_eq_true', Bool.not_eq_false', Bool.true_and, Bool.and_true, Bool.false_eq_true, if_false, if_true, true_and, and_true, os, Option.bind_none, ofs, beq_eq_false_iff_ne, decide_eq_false_iff_not, toList_iff, data_nil.1 hs, not_true_eq_false]; rfl
 | bad hn hq he =>
  intro s x k hs hz hx hk
  obtain ⟨k, rfl⟩ : ∃ j, k = j + 1 := ⟨k - 1, by omega⟩
  have hne : ¬ s = ByteArray.mk (List.toArray []) := fun e => hn (hs.symm.trans (data_nil.2 e))
  simp only [utf_Count.s0, utf_Count.s0c, cond_true, cond_false, if_b, decide_eq_true_eq, Bool.and_eq_true, Bool.or_eq_true, beq_iff_eq, bne_iff_ne, ne_eq, Bool.not_eq_true', Bool.not_eq_false', Bool.true_and, Bool.and_true, Bool.false_eq_true, if_false, if_true, true_and, and_true, os, Option.bind_none, ofs, beq_eq_false_iff_ne, decide_eq_false_iff_not, toList_iff, hne, next_eq (s := s) (k := k) (by omega) (by omega), hs, hq, he, not_false_eq_true]
 | @cons l r n rs b hn hq hr ih =>
  intro s x k hs hz hx hk
  obtain ⟨k, rfl⟩ : ∃ j, k = j + 1 := ⟨k - 1, by omega⟩
  have ho := next_ok hq
  have hsz : s.size = l.length := by rw [size_eq, hs]
  have hd := drop_data' s n.toNat
  have hdz : (s.extract n.toNat (Int.toNat (s.size : Int))).size = l.length - n.toNat := by rw [size_eq, hd, hs, List.length_drop]
  have e1 : IntKind.wrap IntKind.i64 ((x : Int) + 1) = ((x + 1 : Nat) : Int) := by rw [i64w (by omega) (by omega)]; omega
  have hne : ¬ s = ByteArray.mk (List.toArray []) := fun e => hn (hs.symm.trans (data_nil.2 e))
  have g : ((0 : Int) ≤ n ∧ n ≤ (s.size : Int)) ∧ ((s.size : Int) ≤ (s.size : Int)) := by omega
  have := ih (s.extract n.toNat (Int.toNat (s.size : Int))) (x + 1) k (by rw [hd, hs]) (by omega) (by rw [List.length_drop]; omega) (by rw [List.length_drop]; omega)
  simp only [utf_Count.s0, utf_Count.s0c, cond_true, cond_false, if_b, decide_eq_true_eq, Bool.and_eq_true, Bool.or_eq_true, beq_iff_eq, bne_iff_ne, ne_eq, Bool.not_eq_true', Bool.not_eq_false', Bool.true_and, Bool.and_true, Bool.false_eq_true, if_false, if_true, true_and, and_true, os, Option.bind_none, ofs, beq_eq_false_iff_ne, decide_eq_false_iff_not, toList_iff, hne, next_eq (s := s) (k := k) (by omega) (by omega), hs, hq, not_false_eq_true, not_true_eq_false, g, e1, this]
  congr 1
  split
  ·simp; omega
  ·rfl
theorem count_eq {s : ByteArray} {rs : List Int} {b : Bool} {k : Nat} (h : Rdc s.data.toList rs b) (hz : s.size ≤ 140737488351232) (hk : s.size + 30 ≤ k) : utf_Count.f k s = some (if b = true then (rs.length : Int) else -1) := by
 have := count_s0 h s 0 k rfl hz (by rw [← size_eq]; omega) (by rw [← size_eq]; omega)
 simp only [utf_Count.f, utf_Count.c, ofs]
 rw [Nat.zero_add] at this
 exact this
theorem valid_eq {s : ByteArray} {rs : List Int} {b : Bool} {k : Nat} (h : Rdc s.data.toList rs b) (hz : s.size ≤ 140737488351232) (hk : s.size + 30 ≤ k) : utf_Valid.f k s = some b := by
 simp only [utf_Valid.f, utf_Valid.c, count_eq h hz hk, os]
 cases b
 ·rw [if_neg (by simp)]; rfl
 ·rw [if_pos rfl]; exact congrArg some (decide_eq_true (show (rs.length : Int) ≥ 0 by omega))
end Go.Proofs.YtijjlpgcpdapnaaGreatDoor.Aev
