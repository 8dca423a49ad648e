import Derived.Test.YtimadphjdkjgaaaGreatDoorF1
import Derived.Test.YtimadphjdkjgaaaGreatDoorF7
import Derived.Test.YtimadphjdkjgaaaGreatDoorF8
import Derived.Test.YtimadphjdkjgaaaGreatDoorUtfA

/- All characters of a text; the document's package utf. -/
namespace Go.Proofs.YtimadphjdkjgaaaGreatDoor.Aev
open Go
set_option linter.unusedVariables false
set_option linter.unusedSimpArgs false
set_option maxRecDepth 100000
theorem cont_ok (w : Nat) : ∀ (n r lo hi : Nat) (t : List UInt8) (q m : Int), contS w n r lo hi t = (q, m, 0) → m = w ∧ n ≤ t.length := by
 intro n
 induction n with
 | zero => intro r lo hi t q m h; simp [contS] at h; exact ⟨h.2.symm, by omega⟩
 | succ n ih =>
  intro r lo hi t q m h
  cases t with
  | nil => simp [contS] at h
  | cons c t =>
   rw [contS] at h
   split at h
   ·simp at h
   ·obtain ⟨a, b⟩ := ih _ _ _ _ _ _ h
    exact ⟨a, by simp; omega⟩
theorem next_ok {l : List UInt8} {r n : Int} (h : nextS l = (r, n, 0)) : 1 ≤ n ∧ n ≤ 4 ∧ n ≤ l.length := by
 cases l with
 | nil => simp [nextS] at h
 | cons c t =>
  obtain ⟨f1, f2, f3⟩ := first_range c.toNat c.toNat_lt
  rw [nextS] at h
  split at h
  ·simp at h
  ·obtain ⟨a, b⟩ := cont_ok _ _ _ _ _ _ _ _ h
   simp only [List.length_cons]
   omega
inductive Rdc : List UInt8 → List Int → Bool → Prop
 | nil : Rdc [] [] true
 | bad {l : List UInt8} {r n e : Int} : l ≠ [] → nextS l = (r, n, e) → e ≠ 0 → Rdc l [] false
 | cons {l : List UInt8} {r n : Int} {rs : List Int} {b : Bool} : l ≠ [] → nextS l = (r, n, 0) → Rdc (l.drop n.toNat) rs b → Rdc l (r :: rs) b
theorem rd_ex : ∀ (m : Nat) (l : List UInt8), l.length ≤ m → ∃ rs b, Rdc l rs b := by
 intro m
 induction m with
 | zero =>
  intro l h
  obtain rfl : l = [] := List.eq_nil_of_length_eq_zero (by omega)
  exact ⟨_, _, .nil⟩
 | succ m ih =>
  intro l h
  by_cases hn : l = []
  ·subst hn; exact ⟨_, _, .nil⟩
  ·obtain ⟨r, n, e, hq⟩ : ∃ r n e, nextS l = (r, n, e) := ⟨_, _, _, rfl⟩
   by_cases he : e = 0
   ·subst he
    have := next_ok hq
    obtain ⟨rs, b, hr⟩ := ih (l.drop n.toNat) (by rw [List.length_drop]; omega)
    exact ⟨_, _, .cons hn hq hr⟩
   ·exact ⟨_, _, .bad hn hq he⟩
theorem count_s0 {l : List UInt8} {rs : List Int} {b : Bool} (h : Rdc l rs b) : ∀ (s : ByteArray) (x k : Nat), s.data.toList = l → s.size ≤ 140737488351232 → x + l.length ≤ 140737488351232 → l.length + 30 ≤ k →
  utf_Count.s0 k s x = some (if b = true then ((x + rs.length : Nat) : Int) else -1) := by
 induction h with
 | nil =>
  intro s x k hs hz hx hk
  obtain ⟨k, rfl⟩ : ∃ j, k = j + 1 := ⟨k - 1, by omega⟩
  simp only [utf_Count.s0, utf_Count.s0c, cond_true, cond_false, if_b, decide_eq_true_eq, Bool.and_eq_true, Bool.or_eq_true, beq_iff_eq, bne_iff_ne, ne_eq, Bool.not_eq_true', Bool.not_eq_false', Bool.true_and, Bool.and_true, Bool.false_eq_true, if_false, if_true, true_and, and_true, os, Option.bind_none, ofs, beq_eq_false_iff_ne, decide_eq_false_iff_not, toList_iff, data_nil.1 hs, not_true_eq_false]; rfl
 | bad hn hq he =>
  intro s x k hs hz hx hk
  obtain ⟨k, rfl⟩ : ∃ j, k = j + 1 := ⟨k - 1, by omega⟩
  have hne : ¬ s = ByteArray.mk (List.toArray []) := fun e => hn (hs.symm.trans (data_nil.2 e))
  simp only [utf_Count.s0, utf_Count.s0c, cond_true, cond_false, if_b, decide_eq_true_eq, Bool.and_eq_true, Bool.or_eq_true, beq_iff_eq, bne_iff_ne, ne_eq, Bool.not_eq_true', Bool.not_eq_false', Bool.true_and, Bool.and_true, Bool.false_eq_true, if_false, if_true, true_and, and_true, os, Option.bind_none, ofs, beq_eq_false_iff_ne, decide_eq_false_iff_not, toList_iff, hne, next_eq (s := s) (k := k) (by omega) (by omega), hs, hq, he, not_false_eq_true]
 | @cons l r n rs b hn hq hr ih =>
  intro s x k hs hz hx hk
  obtain ⟨k, rfl⟩ : ∃ j, k = j + 1 := ⟨k - 1, by omega⟩
  have ho := next_ok hq
  have hsz : s.size = l.length := by rw [size_eq, hs]
  have hd := drop_data' s n.toNat
  have hdz : (s.extract n.toNat (Int.toNat (s.size : Int))).size = l.length - n.toNat := by rw [size_eq, hd, hs, List.length_drop]
  have e1 : IntKind.wrap IntKind.i64 ((x : Int) + 1) = ((x + 1 : Nat) : Int) := by rw [i64w (by omega) (by omega)]; omega
  have hne : ¬ s = ByteArray.mk (List.toArray []) := fun e => hn (hs.symm.trans (data_nil.2 e))
  have g : ((0 : Int) ≤ n ∧ n ≤ (s.size : Int)) ∧ ((s.size : Int) ≤ (s.size : Int)) := by omega
  have := ih (s.extract n.toNat (Int.toNat (s.size : Int))) (x + 1) k (by rw [hd, hs]) (by omega) (by rw [List.length_drop]; omega) (by rw [List.length_drop]; omega)
  simp only [utf_Count.s0, utf_Count.s0c, cond_true, cond_false, if_b, decide_eq_true_eq, Bool.and_eq_true, Bool.or_eq_true, beq_iff_eq, bne_iff_ne, ne_eq, Bool.not_eq_true', Bool.not_eq_false', Bool.true_and, Bool.and_true, Bool.false_eq_true, if_false, if_true, true_and, and_true, os, Option.bind_none, ofs, beq_eq_false_iff_ne, decide_eq_false_iff_not, toList_iff, hne, next_eq (s := s) (k := k) (by omega) (by omega), hs, hq, not_false_eq_true, not_true_eq_false, g, e1, this]
  congr 1
  split
  ·simp; omega
  ·rfl
theorem count_eq {s : ByteArray} {rs : List Int} {b : Bool} {k : Nat} (h : Rdc s.data.toList rs b) (hz : s.size ≤ 140737488351232) (hk : s.size + 30 ≤ k) : utf_Count.f k s = some (if b = true then (rs.length : Int) else -1) := by
 have := count_s0 h s 0 k rfl hz (by rw [← size_eq]; omega) (by rw [← size_eq]; omega)
 simp only [utf_Count.f, utf_Count.c, ofs]
 rw [Nat.zero_add] at this
 exact this
theorem valid_eq {s : ByteArray} {rs : List Int} {b : Bool} {k : Nat} (h : Rdc s.data.toList rs b) (hz : s.size ≤ 140737488351232) (hk : s.size + 30 ≤ k) : utf_Valid.f k s = some b := by
 simp only [utf_Valid.f, utf_Valid.c, count_eq h hz hk, os]
 cases b
 ·rw [if_neg (by simp)]; rfl
 ·rw [if_pos rfl]; exact congrArg some (decide_eq_true (show (rs.length : Int) ≥ 0 by omega))
def amS (lo hi : Nat) (w : Nat) : Bool :=
 decide (max lo (if w = 2 then 128 else if w = 3 then 2048 else if w = 4 then 65536 else 0) ≤ min hi (if w = 2 then 2047 else if w = 3 then 65535 else if w = 4 then 1114111 else 127) ∧
  (max lo (if w = 2 then 128 else if w = 3 then 2048 else if w = 4 then 65536 else 0) < 55296 ∨ 57343 < min hi (if w = 2 then 2047 else if w = 3 then 65535 else if w = 4 then 1114111 else 127)))
theorem among_end (a b : Int) (c d : Bool) (h1 : ¬ a > b ∧ (a < 55296 ∨ b > 57343) ↔ c = true) : (if a > b then some false else if a < 55296 then some true else some (decide (b > 57343))) = some c := by
 by_cases x : a > b
 ·rw [if_pos x]; cases c
  ·rfl
  ·exact absurd x (h1.2 rfl).1
 ·rw [if_neg x]
  by_cases y : a < 55296
  ·rw [if_pos y, h1.1 ⟨x, .inl y⟩]
  ·rw [if_neg y]
   cases c
   ·rw [decide_eq_false (fun z => by have := h1.1 ⟨x, .inr z⟩; simp at this)]
   ·rw [decide_eq_true ((h1.2 rfl).2.resolve_left y)]
theorem amx (x y : Int) : (if x > y then x else y) = max y x := by split <;> omega
theorem amn (x y : Int) : (if x < y then x else y) = min y x := by split <;> omega
theorem among_eq (lo hi w : Nat) (k : Nat) : r01_among.f (k + 3) (lo : Int) (hi : Int) (w : Int) = some (amS lo hi w) := by
 simp only [r01_among.f, r01_among.c, r01_among.s0, r01_among.s0c, r01_among.s1, r01_among.s1c, r01_among.s2, r01_among.s2c, cond_true, cond_false, if_b, decide_eq_true_eq, Bool.and_eq_true, Bool.or_eq_true, beq_iff_eq, bne_iff_ne, ne_eq, Bool.not_eq_true', Bool.not_eq_false', Bool.true_and, Bool.and_true, Bool.false_eq_true, if_false, if_true, true_and, and_true, os, Option.bind_none, ofs, beq_eq_false_iff_ne, decide_eq_false_iff_not, toList_iff, amx, amn]
 by_cases w2 : w = 2
 ·subst w2
  rw [if_pos (by omega), if_neg (by omega), if_neg (by omega)]
  refine among_end _ _ _ true ?_
  unfold amS
  rw [decide_eq_true_eq]
  simp only [if_true]
  omega
 ·rw [if_neg (by omega)]
  by_cases w3 : w = 3
  ·subst w3
   rw [if_pos (by omega), if_neg (by omega)]
   refine among_end _ _ _ true ?_
   unfold amS
   rw [decide_eq_true_eq]
   simp only [if_neg (show ¬ 3 = 2 by omega), if_true]
   omega
  ·rw [if_neg (by omega)]
   by_cases w4 : w = 4
   ·subst w4
    rw [if_pos (by omega)]
    refine among_end _ _ _ true ?_
    unfold amS
    rw [decide_eq_true_eq]
    simp only [if_neg (show ¬ 4 = 2 by omega), if_neg (show ¬ 4 = 3 by omega), if_true]
    omega
   ·rw [if_neg (by omega)]
    refine among_end _ _ _ true ?_
    unfold amS
    rw [decide_eq_true_eq]
    simp only [if_neg w2, if_neg w3, if_neg w4]
    omega
theorem am2 {r x : Nat} (h1 : 2 ≤ r) (h2 : r ≤ 31) (hx : x < 64) : amS ((r * 64 + x) * 1) ((r * 64 + x) * 1 + 1 - 1) 2 = true := by
 unfold amS; rw [decide_eq_true_eq]; simp only [if_true]; omega
theorem am3 {r c lo hi : Nat} (h1 : r ≤ 15) (hc1 : 128 ≤ c) (hc2 : c ≤ 191) (hlo : lo = if r = 0 then 160 else 128) (hhi : hi = if r = 13 then 159 else 191) :
  amS ((r * 64 + c % 64) * 64) ((r * 64 + c % 64) * 64 + 64 - 1) 3 = decide (lo ≤ c ∧ c ≤ hi) := by
 unfold amS
 rw [decide_eq_decide]
 simp only [if_neg (show ¬ 3 = 2 by omega), if_true]
 subst hlo hhi
 by_cases r0 : r = 0
 ·rw [if_pos r0, if_neg (show ¬ r = 13 by omega)]; omega
 ·rw [if_neg r0]
  by_cases r13 : r = 13
  ·rw [if_pos r13]; omega
  ·rw [if_neg r13]; omega
theorem am3b {r c d lo hi : Nat} (h1 : r ≤ 15) (hc1 : 128 ≤ c) (hc2 : c ≤ 191) (hlo : lo = if r = 0 then 160 else 128) (hhi : hi = if r = 13 then 159 else 191) (e : lo ≤ c ∧ c ≤ hi) (hd : d < 64) :
  amS (((r * 64 + c % 64) * 64 + d) * 1) (((r * 64 + c % 64) * 64 + d) * 1 + 1 - 1) 3 = true := by
 unfold amS
 rw [decide_eq_true_eq]
 simp only [if_neg (show ¬ 3 = 2 by omega), if_true]
 subst hlo hhi
 split at e <;> split at e <;> omega
theorem am4 {r c lo hi : Nat} (h1 : r ≤ 4) (hc1 : 128 ≤ c) (hc2 : c ≤ 191) (hlo : lo = if r = 0 then 144 else 128) (hhi : hi = if r = 4 then 143 else 191) :
  amS ((r * 64 + c % 64) * 4096) ((r * 64 + c % 64) * 4096 + 4096 - 1) 4 = decide (lo ≤ c ∧ c ≤ hi) := by
 unfold amS
 rw [decide_eq_decide]
 simp only [if_neg (show ¬ 4 = 2 by omega), if_neg (show ¬ 4 = 3 by omega), if_true]
 subst hlo hhi
 by_cases r0 : r = 0
 ·rw [if_pos r0, if_neg (show ¬ r = 4 by omega)]; omega
 ·rw [if_neg r0]
  by_cases r13 : r = 4
  ·rw [if_pos r13]; omega
  ·rw [if_neg r13]; omega
theorem am4r {r c lo hi : Nat} (h1 : r ≤ 4) (hc1 : 128 ≤ c) (hc2 : c ≤ 191) (hlo : lo = if r = 0 then 144 else 128) (hhi : hi = if r = 4 then 143 else 191) (e : lo ≤ c ∧ c ≤ hi) : 16 ≤ r * 64 + c % 64 ∧ r * 64 + c % 64 ≤ 271 := by
 subst hlo hhi
 split at e <;> split at e <;> omega
theorem am4b {r d : Nat} (h1 : 16 ≤ r) (h2 : r ≤ 271) (hd : d < 64) : amS ((r * 64 + d) * 64) ((r * 64 + d) * 64 + 64 - 1) 4 = true := by
 unfold amS
 rw [decide_eq_true_eq]
 simp only [if_neg (show ¬ 4 = 2 by omega), if_neg (show ¬ 4 = 3 by omega), if_true]
 omega
theorem am4c {r d : Nat} (h1 : 1024 ≤ r) (h2 : r ≤ 17407) (hd : d < 64) : amS ((r * 64 + d) * 1) ((r * 64 + d) * 1 + 1 - 1) 4 = true := by
 unfold amS
 rw [decide_eq_true_eq]
 simp only [if_neg (show ¬ 4 = 2 by omega), if_neg (show ¬ 4 = 3 by omega), if_true]
 omega
theorem w_shift {r c : Nat} (hr : r ≤ 1048576) (h1 : 128 ≤ c) (h2 : c ≤ 191) : IntKind.wrap IntKind.i64 (IntKind.wrap IntKind.i64 (IntKind.wrap IntKind.i64 ((r : Int) * 64) + (c : Int)) - 128) = ((r * 64 + c % 64 : Nat) : Int) := by
 rw [i64w (n := (r : Int) * 64) (by omega) (by omega), i64w (n := (r : Int) * 64 + (c : Int)) (by omega) (by omega), i64w (by omega) (by omega)]; omega
theorem w_div {q : Nat} (hq : q ≤ 4096) : IntKind.wrap IntKind.i64 (Int.tdiv ((64 * q : Nat) : Int) 64) = (q : Int) := by
 rw [Int.tdiv_eq_ediv_of_nonneg (by omega), i64w (by omega) (by omega)]; omega
theorem w_mul {m q : Nat} (hm : m ≤ 67108928) (hq : q ≤ 4096) : IntKind.wrap IntKind.i64 ((m : Int) * (q : Int)) = ((m * q : Nat) : Int) ∧ (1 ≤ q → IntKind.wrap IntKind.i64 (IntKind.wrap IntKind.i64 (((m * q : Nat) : Int) + (q : Int)) - 1) = ((m * q + q - 1 : Nat) : Int)) := by
 have h : m * q ≤ 274878169088 := Nat.mul_le_mul hm hq
 rw [← Int.natCast_mul]
 generalize m * q = P at h
 refine ⟨i64w (by omega) (by omega), fun h1 => ?_⟩
 rw [i64w (n := (P : Int) + (q : Int)) (by omega) (by omega), i64w (by omega) (by omega)]; omega
theorem l1_end (s : ByteArray) (w r rest k : Nat) : r01_Next.s1 (k + 1) s (w : Int) (r : Int) (rest : Int) (w : Int) = some ((r : Int), (w : Int), 0) := by
 have e : ¬ (w : Int) < (w : Int) := by omega
 simp only [r01_Next.s1, r01_Next.s1c, cond_true, cond_false, if_b, decide_eq_true_eq, Bool.and_eq_true, Bool.or_eq_true, beq_iff_eq, bne_iff_ne, ne_eq, Bool.not_eq_true', Bool.not_eq_false', Bool.true_and, Bool.and_true, Bool.false_eq_true, if_false, if_true, true_and, and_true, os, Option.bind_none, ofs, beq_eq_false_iff_ne, decide_eq_false_iff_not, toList_iff, e]
theorem l1_step (s : ByteArray) (hs : s.size ≤ 4611686018427387904) (w r q i k : Nat) (hi : i < w) (hw : w ≤ 4) (hr : r ≤ 1048576) (hq1 : 1 ≤ q) (hq : q ≤ 4096) (hz : i ≤ s.size) :
  r01_Next.s1 (k + 6) s (w : Int) (r : Int) ((64 * q : Nat) : Int) (i : Int) =
   match s.data.toList.drop i with
   | [] => some (0, 0, 3)
   | c :: t => if c.toNat < 128 ∨ 191 < c.toNat then some (0, 0, 7) else if amS ((r * 64 + c.toNat % 64) * q) ((r * 64 + c.toNat % 64) * q + q - 1) w = true then r01_Next.s1 (k + 2) s (w : Int) ((r * 64 + c.toNat % 64 : Nat) : Int) (q : Int) ((i + 1 : Nat) : Int) else some (0, 0, 7) := by
 have e0 : (i : Int) < (w : Int) := by omega
 by_cases c : s.size ≤ i
 ·have e : (i : Int) ≥ (s.size : Int) := by omega
  rw [List.drop_eq_nil_of_le (by rw [← size_eq]; exact c)]
  simp only [r01_Next.s1, r01_Next.s1c, cond_true, cond_false, if_b, decide_eq_true_eq, Bool.and_eq_true, Bool.or_eq_true, beq_iff_eq, bne_iff_ne, ne_eq, Bool.not_eq_true', Bool.not_eq_false', Bool.true_and, Bool.and_true, Bool.false_eq_true, if_false, if_true, true_and, and_true, os, Option.bind_none, ofs, beq_eq_false_iff_ne, decide_eq_false_iff_not, toList_iff, e0, e]
 ·have hl : i < s.data.toList.length := by rw [← size_eq]; omega
  have hd : s.data.toList.drop i = s.data.toList[i] :: s.data.toList.drop (i + 1) := List.drop_eq_getElem_cons hl
  have hb : bt s (i : Int) = ((s.data.toList[i]).toNat : Int) := bt_nat s i hl
  have e : ¬ (i : Int) ≥ (s.size : Int) := by omega
  have e1 : (0 : Int) ≤ (i : Int) ∧ (i : Int) < (s.size : Int) := by omega
  rw [hd]
  generalize s.data.toList[i] = b at hb
  have hb8 := b.toNat_lt
  have e2 : IntKind.wrap IntKind.i64 (b.toNat : Int) = (b.toNat : Int) := i64w (by omega) (by omega)
  by_cases d : b.toNat < 128
  ·have d' : (b.toNat : Int) < 128 := by omega
   simp only [r01_Next.s1, r01_Next.s1c, r01_Next.s2, r01_Next.s2c, cond_true, cond_false, if_b, decide_eq_true_eq, Bool.and_eq_true, Bool.or_eq_true, beq_iff_eq, bne_iff_ne, ne_eq, Bool.not_eq_true', Bool.not_eq_false', Bool.true_and, Bool.and_true, Bool.false_eq_true, if_false, if_true, true_and, and_true, os, Option.bind_none, ofs, beq_eq_false_iff_ne, decide_eq_false_iff_not, toList_iff, e0, e, e1, hb, e2, d', d, true_or]
  ·have d' : ¬ (b.toNat : Int) < 128 := by omega
   by_cases f : 191 < b.toNat
   ·have f' : (b.toNat : Int) > 191 := by omega
    simp only [r01_Next.s1, r01_Next.s1c, r01_Next.s2, r01_Next.s2c, cond_true, cond_false, if_b, decide_eq_true_eq, Bool.and_eq_true, Bool.or_eq_true, beq_iff_eq, bne_iff_ne, ne_eq, Bool.not_eq_true', Bool.not_eq_false', Bool.true_and, Bool.and_true, Bool.false_eq_true, if_false, if_true, true_and, and_true, os, Option.bind_none, ofs, beq_eq_false_iff_ne, decide_eq_false_iff_not, toList_iff, e0, e, e1, hb, e2, d', d, f, f', or_true]
   ·have f' : ¬ (b.toNat : Int) > 191 := by omega
    have g1 := w_shift (r := r) (c := b.toNat) hr (by omega) (by omega)
    have g2 := w_div hq
    obtain ⟨g3, g4⟩ := w_mul (m := r * 64 + b.toNat % 64) (q := q) (by omega) hq
    have g4 := g4 hq1
    have g5 : IntKind.wrap IntKind.i64 ((i : Int) + 1) = ((i + 1 : Nat) : Int) := by rw [i64w (by omega) (by omega)]; omega
    have hor : ¬ (b.toNat < 128 ∨ 191 < b.toNat) := by omega
    simp only [r01_Next.s1, r01_Next.s1c, r01_Next.s2, r01_Next.s2c, r01_Next.s3, r01_Next.s3c, r01_Next.s4, r01_Next.s4c, cond_true, cond_false, e0, e, e1, hb, e2, d', f', decide_true, decide_false, Bool.and_self, ofs, g1, g2, g3, g4, g5, among_eq, os, hor, if_false]
    cases amS ((r * 64 + b.toNat % 64) * q) ((r * 64 + b.toNat % 64) * q + q - 1) w <;> rfl
theorem l1_two (s : ByteArray) (hs : s.size ≤ 4611686018427387904) (r k : Nat) (h1 : 2 ≤ r) (h2 : r ≤ 31) (hz : 1 ≤ s.size) :
  r01_Next.s1 (k + 6) s (2 : Nat) (r : Int) ((64 * 1 : Nat) : Int) (1 : Nat) = some (contS 2 1 r 128 191 (s.data.toList.drop 1)) := by
 rw [l1_step s hs 2 r 1 1 k (by omega) (by omega) (by omega) (by omega) (by omega) hz]
 cases s.data.toList.drop 1 with
 | nil => rfl
 | cons c t =>
  dsimp only
  rw [contS]
  by_cases d : c.toNat < 128 ∨ 191 < c.toNat
  ·rw [if_pos d, if_pos d]
  ·rw [if_neg d, if_neg d, if_pos (am2 h1 h2 (Nat.mod_lt _ (by omega))), l1_end]; rfl
theorem l1_three (s : ByteArray) (hs : s.size ≤ 4611686018427387904) (r lo hi k : Nat) (h1 : r ≤ 15) (hlo : lo = if r = 0 then 160 else 128) (hhi : hi = if r = 13 then 159 else 191) (hz : 1 ≤ s.size) :
  r01_Next.s1 (k + 10) s (3 : Nat) (r : Int) ((64 * 64 : Nat) : Int) (1 : Nat) = some (contS 3 2 r lo hi (s.data.toList.drop 1)) := by
 have hlo1 : 128 ≤ lo := by subst hlo; split <;> omega
 have hhi1 : hi ≤ 191 := by subst hhi; split <;> omega
 rw [l1_step s hs 3 r 64 1 (k + 4) (by omega) (by omega) (by omega) (by omega) (by omega) hz]
 by_cases z2 : s.size ≤ 1
 ·rw [List.drop_eq_nil_of_le (by rw [← size_eq]; exact z2)]; rfl
 cases hd : s.data.toList.drop 1 with
 | nil => rfl
 | cons c t =>
  dsimp only
  rw [contS]
  have ht : s.data.toList.drop 2 = t := by rw [show 2 = 1 + 1 from rfl, ← List.drop_drop, hd]; rfl
  by_cases d : c.toNat < 128 ∨ 191 < c.toNat
  ·rw [if_pos d, if_pos (by omega)]
  ·rw [if_neg d]
   rw [am3 h1 (by omega) (by omega) hlo hhi]
   by_cases e : lo ≤ c.toNat ∧ c.toNat ≤ hi
   ·rw [decide_eq_true e, if_pos rfl, if_neg (by omega), show k + 4 + 2 = k + 6 by omega]
    have := l1_step s hs 3 (r * 64 + c.toNat % 64) 1 2 k (by omega) (by omega) (by omega) (by omega) (by omega) (by omega)
    rw [ht] at this
    rw [show (64 : Nat) = 64 * 1 from rfl] at *
    rw [show ((64 * 1 : Nat) : Int) = ((64 * 1 : Nat) : Int) from rfl]
    refine Eq.trans this ?_
    cases t with
    | nil => rfl
    | cons c2 t2 =>
     dsimp only
     rw [contS]
     by_cases d2 : c2.toNat < 128 ∨ 191 < c2.toNat
     ·rw [if_pos d2, if_pos d2]
     ·rw [if_neg d2, if_neg d2, if_pos (am3b h1 (by omega) (by omega) hlo hhi e (Nat.mod_lt _ (by omega))), l1_end]; rfl
   ·rw [decide_eq_false e, if_neg (by simp), if_pos (by omega)]
theorem l1_four (s : ByteArray) (hs : s.size ≤ 4611686018427387904) (r lo hi k : Nat) (h1 : r ≤ 4) (hlo : lo = if r = 0 then 144 else 128) (hhi : hi = if r = 4 then 143 else 191) (hz : 1 ≤ s.size) :
  r01_Next.s1 (k + 14) s (4 : Nat) (r : Int) ((64 * 4096 : Nat) : Int) (1 : Nat) = some (contS 4 3 r lo hi (s.data.toList.drop 1)) := by
 have hlo1 : 128 ≤ lo := by subst hlo; split <;> omega
 have hhi1 : hi ≤ 191 := by subst hhi; split <;> omega
 rw [l1_step s hs 4 r 4096 1 (k + 8) (by omega) (by omega) (by omega) (by omega) (by omega) hz]
 cases hd : s.data.toList.drop 1 with
 | nil => rfl
 | cons c t =>
  dsimp only
  rw [contS]
  have hz2 : 2 ≤ s.size := by
   rcases Nat.lt_or_ge s.size 2 with z | z
   ·rw [List.drop_eq_nil_of_le (by rw [← size_eq]; omega)] at hd; exact absurd hd (by simp)
   ·exact z
  have ht : s.data.toList.drop 2 = t := by rw [show 2 = 1 + 1 from rfl, ← List.drop_drop, hd]; rfl
  by_cases d : c.toNat < 128 ∨ 191 < c.toNat
  ·rw [if_pos d, if_pos (by omega)]
  ·rw [if_neg d]
   rw [am4 h1 (by omega) (by omega) hlo hhi]
   by_cases e : lo ≤ c.toNat ∧ c.toNat ≤ hi
   ·rw [decide_eq_true e, if_pos rfl, if_neg (by omega), show k + 8 + 2 = k + 4 + 6 by omega]
    have hr1 := am4r h1 (by omega) (by omega) hlo hhi e
    generalize r * 64 + c.toNat % 64 = r1 at hr1
    have := l1_step s hs 4 r1 64 2 (k + 4) (by omega) (by omega) (by omega) (by omega) (by omega) (by omega)
    rw [ht] at this
    refine Eq.trans this ?_
    cases t with
    | nil => rfl
    | cons c2 t2 =>
     dsimp only
     rw [contS]
     have hz3 : 3 ≤ s.size := by
      rcases Nat.lt_or_ge s.size 3 with z | z
      ·rw [List.drop_eq_nil_of_le (by rw [← size_eq]; omega)] at ht; exact absurd ht (by simp)
      ·exact z
     have ht2 : s.data.toList.drop 3 = t2 := by rw [show 3 = 2 + 1 from rfl, ← List.drop_drop, ht]; rfl
     by_cases d2 : c2.toNat < 128 ∨ 191 < c2.toNat
     ·rw [if_pos d2, if_pos d2]
     ·rw [if_neg d2, if_neg d2, if_pos (am4b hr1.1 hr1.2 (Nat.mod_lt _ (by omega)))]
      have hr2 : 1024 ≤ r1 * 64 + c2.toNat % 64 ∧ r1 * 64 + c2.toNat % 64 ≤ 17407 := by omega
      generalize r1 * 64 + c2.toNat % 64 = r2 at hr2
      have := l1_step s hs 4 r2 1 3 k (by omega) (by omega) (by omega) (by omega) (by omega) (by omega)
      rw [ht2] at this
      refine Eq.trans this ?_
      cases t2 with
      | nil => rfl
      | cons c3 t3 =>
       dsimp only
       rw [contS]
       by_cases d3 : c3.toNat < 128 ∨ 191 < c3.toNat
       ·rw [if_pos d3, if_pos d3]
       ·rw [if_neg d3, if_neg d3, if_pos (am4c hr2.1 hr2.2 (Nat.mod_lt _ (by omega))), l1_end]; rfl
   ·rw [decide_eq_false e, if_neg (by simp), if_pos (by omega)]

def leadS (c : Nat) : Nat × Nat := if c < 128 then (1, c) else if 192 ≤ c ∧ c < 224 then (2, c - 192) else if 224 ≤ c ∧ c < 240 then (3, c - 224) else if 240 ≤ c ∧ c < 248 then (4, c - 240) else (0, 0)
theorem lead_3 : ∀ c : Fin 256, r01_lead.f 3 (c.val : Int) = some (((leadS c.val).1 : Int), ((leadS c.val).2 : Int)) := by decide +kernel
theorem lead_fuel (k : Nat) (c : Int) : r01_lead.f (k + 3) c = r01_lead.f 3 c := by
 simp only [r01_lead.f, r01_lead.c, r01_lead.s0, r01_lead.s0c, r01_lead.s1, r01_lead.s1c]
theorem lead_eq {c : Nat} (h : c < 256) (k : Nat) : r01_lead.f (k + 3) (c : Int) = some (((leadS c).1 : Int), ((leadS c).2 : Int)) := by
 rw [lead_fuel]; exact lead_3 ⟨c, h⟩
theorem w_mul' {m q : Nat} (hm : m ≤ 128) (hq1 : 1 ≤ q) (hq : q ≤ 262144) : IntKind.wrap IntKind.i64 ((m : Int) * (q : Int)) = ((m * q : Nat) : Int) ∧ IntKind.wrap IntKind.i64 (IntKind.wrap IntKind.i64 (((m * q : Nat) : Int) + (q : Int)) - 1) = ((m * q + q - 1 : Nat) : Int) := by
 have h : m * q ≤ 33554432 := Nat.mul_le_mul hm hq
 rw [← Int.natCast_mul]
 generalize m * q = P at h
 refine ⟨i64w (by omega) (by omega), ?_⟩
 rw [i64w (n := (P : Int) + (q : Int)) (by omega) (by omega), i64w (by omega) (by omega)]; omega
theorem l0_end (s : ByteArray) (w r q k : Nat) (hr : r ≤ 128) (hq1 : 1 ≤ q) (hq : q ≤ 262144) : r01_Next.s0 (k + 4) s (w : Int) (r : Int) (q : Int) (w : Int) =
  if amS (r * q) (r * q + q - 1) w = true then r01_Next.s1 (k + 3) s (w : Int) (r : Int) (q : Int) (1 : Nat) else some (0, 0, 7) := by
 obtain ⟨e1, e2⟩ := w_mul' (m := r) (q := q) hr hq1 hq
 have e0 : ¬ (w : Int) < (w : Int) := by omega
 simp only [r01_Next.s0, r01_Next.s0c, e0, decide_false, cond_false, e1, e2, among_eq, os, ofs]
 cases amS (r * q) (r * q + q - 1) w <;> rfl
theorem l0_more (s : ByteArray) (w r q i k : Nat) (hi : i < w) (hw : w ≤ 4) (hq : q ≤ 262144) : r01_Next.s0 (k + 1) s (w : Int) (r : Int) (q : Int) (i : Int) = r01_Next.s0 k s (w : Int) (r : Int) ((q * 64 : Nat) : Int) ((i + 1 : Nat) : Int) := by
 have e1 : IntKind.wrap IntKind.i64 ((q : Int) * 64) = ((q * 64 : Nat) : Int) := by rw [i64w (by omega) (by omega)]; omega
 have e2 : IntKind.wrap IntKind.i64 ((i : Int) + 1) = ((i + 1 : Nat) : Int) := by rw [i64w (by omega) (by omega)]; omega
 have e0 : (i : Int) < (w : Int) := by omega
 simp only [r01_Next.s0, r01_Next.s0c, e0, decide_true, cond_true, e1, e2, ofs]
theorem am_1 {c : Nat} (h : c < 128) : amS (c * 1) (c * 1 + 1 - 1) 1 = true := by
 unfold amS; rw [decide_eq_true_eq]; simp only [if_neg (show ¬ 1 = 2 by omega), if_neg (show ¬ 1 = 3 by omega), if_neg (show ¬ 1 = 4 by omega)]; omega
theorem am_2 {r : Nat} (h : r ≤ 31) : amS (r * 64) (r * 64 + 64 - 1) 2 = decide (2 ≤ r) := by
 unfold amS; rw [decide_eq_decide]; simp only [if_true]; omega
theorem am_3 {r : Nat} (h : r ≤ 15) : amS (r * 4096) (r * 4096 + 4096 - 1) 3 = true := by
 unfold amS; rw [decide_eq_true_eq]; simp only [if_neg (show ¬ 3 = 2 by omega), if_true]; omega
theorem am_4 {r : Nat} (h : r ≤ 7) : amS (r * 262144) (r * 262144 + 262144 - 1) 4 = decide (r ≤ 4) := by
 unfold amS; rw [decide_eq_decide]; simp only [if_neg (show ¬ 4 = 2 by omega), if_neg (show ¬ 4 = 3 by omega), if_true]; omega
theorem f_1 {c : Nat} (h : c < 128) : firstS c = (1, c, 0, 0) := by unfold firstS; rw [if_pos h]
theorem f_2' : ∀ r : Fin 32, firstS (192 + r.val) = if 2 ≤ r.val then (2, r.val, 128, 191) else (0, 0, 0, 0) := by decide +kernel
theorem f_2 {r : Nat} (h : r ≤ 31) : firstS (192 + r) = if 2 ≤ r then (2, r, 128, 191) else (0, 0, 0, 0) := f_2' ⟨r, by omega⟩
theorem f_3' : ∀ r : Fin 16, firstS (224 + r.val) = (3, r.val, if r.val = 0 then 160 else 128, if r.val = 13 then 159 else 191) := by decide +kernel
theorem f_3 {r : Nat} (h : r ≤ 15) : firstS (224 + r) = (3, r, if r = 0 then 160 else 128, if r = 13 then 159 else 191) := f_3' ⟨r, by omega⟩
theorem f_4' : ∀ r : Fin 8, firstS (240 + r.val) = if r.val ≤ 4 then (4, r.val, if r.val = 0 then 144 else 128, if r.val = 4 then 143 else 191) else (0, 0, 0, 0) := by decide +kernel
theorem f_4 {r : Nat} (h : r ≤ 7) : firstS (240 + r) = if r ≤ 4 then (4, r, if r = 0 then 144 else 128, if r = 4 then 143 else 191) else (0, 0, 0, 0) := f_4' ⟨r, by omega⟩
theorem f_0' : ∀ c : Fin 256, (leadS c.val).1 = 0 → firstS c.val = (0, 0, 0, 0) := by decide +kernel
theorem lead_cases' : ∀ c : Fin 256, c.val < 128 ∧ leadS c.val = (1, c.val) ∨ 192 ≤ c.val ∧ c.val < 224 ∧ leadS c.val = (2, c.val - 192) ∨ 224 ≤ c.val ∧ c.val < 240 ∧ leadS c.val = (3, c.val - 224) ∨ 240 ≤ c.val ∧ c.val < 248 ∧ leadS c.val = (4, c.val - 240) ∨ leadS c.val = (0, 0) := by decide +kernel
theorem lead_cases {c : Nat} (h : c < 256) : c < 128 ∧ leadS c = (1, c) ∨ 192 ≤ c ∧ c < 224 ∧ leadS c = (2, c - 192) ∨ 224 ≤ c ∧ c < 240 ∧ leadS c = (3, c - 224) ∨ 240 ≤ c ∧ c < 248 ∧ leadS c = (4, c - 240) ∨ leadS c = (0, 0) := lead_cases' ⟨c, h⟩
theorem refnext_eq {s : ByteArray} {k : Nat} (hs : s.size ≤ 4611686018427387904) (hk : 60 ≤ k) : r01_Next.f k s = some (nextS s.data.toList) := by
 obtain ⟨k, rfl⟩ : ∃ j, k = j + 60 := ⟨k - 60, by omega⟩
 cases hl : s.data.toList with
 | nil =>
  have h0 : (s.size : Int) = 0 := by rw [size_eq, hl]; rfl
  simp only [r01_Next.f, r01_Next.c, cond_true, cond_false, if_b, decide_eq_true_eq, Bool.and_eq_true, Bool.or_eq_true, beq_iff_eq, bne_iff_ne, ne_eq, Bool.not_eq_true', Bool.not_eq_false', Bool.true_and, Bool.and_true, Bool.false_eq_true, if_false, if_true, true_and, and_true, os, Option.bind_none, ofs, beq_eq_false_iff_ne, decide_eq_false_iff_not, toList_iff, h0]; rfl
 | cons c t =>
  have h0 : 1 ≤ s.size := by rw [size_eq, hl]; simp
  have hb : bt s 0 = (c.toNat : Int) := by
   have := bt_nat s 0 (by rw [← size_eq]; exact h0)
   simp only [hl] at this; simpa using this
  have hc := c.toNat_lt
  have hd : s.data.toList.drop 1 = t := by rw [hl]; rfl
  have g0 : ¬ (s.size : Int) = 0 := by omega
  have g1 : (0 : Int) < (s.size : Int) := by omega
  simp only [r01_Next.f, r01_Next.c, cond_true, cond_false, if_b, decide_eq_true_eq, Bool.and_eq_true, Bool.or_eq_true, beq_iff_eq, bne_iff_ne, ne_eq, Bool.not_eq_true', Bool.not_eq_false', Bool.true_and, Bool.and_true, Bool.false_eq_true, if_false, if_true, true_and, and_true, os, Option.bind_none, ofs, beq_eq_false_iff_ne, decide_eq_false_iff_not, toList_iff, g0, g1, hb, i64w (n := (c.toNat : Int)) (by omega) (by omega)]
  rw [show k + 60 = k + 57 + 3 by omega, lead_eq hc, os, nextS]
  rcases lead_cases hc with ⟨a, e⟩ | ⟨a, b, e⟩ | ⟨a, b, e⟩ | ⟨a, b, e⟩ | e
  ·rw [show leadS c.toNat = (1, c.toNat) from e, f_1 a]
   dsimp only
   rw [if_neg (by omega), if_neg (by omega)]
   have := l0_end s 1 c.toNat 1 (k + 56) (by omega) (by omega) (by omega)
   rw [am_1 a, if_pos rfl, l1_end] at this
   exact this
  ·obtain ⟨r, hr⟩ : ∃ r, c.toNat = 192 + r := ⟨c.toNat - 192, by omega⟩
   rw [show leadS c.toNat = (2, c.toNat - 192) from e, hr, f_2 (by omega)]
   dsimp only
   rw [if_neg (by omega), show 192 + r - 192 = r by omega]
   have h1 := l0_more s 2 r 1 1 (k + 59) (by omega) (by omega) (by omega)
   have h2 := l0_end s 2 r 64 (k + 55) (by omega) (by omega) (by omega)
   rw [am_2 (by omega)] at h2
   refine Eq.trans h1 (Eq.trans h2 ?_)
   by_cases g : 2 ≤ r
   ·rw [decide_eq_true g, if_pos rfl, if_pos g]
    dsimp only
    rw [if_neg (by omega)]
    have := l1_two s hs r (k + 52) g (by omega) h0
    rw [hd] at this
    exact this
   ·rw [decide_eq_false g, if_neg (by simp), if_neg g]; rfl
  ·obtain ⟨r, hr⟩ : ∃ r, c.toNat = 224 + r := ⟨c.toNat - 224, by omega⟩
   rw [show leadS c.toNat = (3, c.toNat - 224) from e, hr, f_3 (by omega)]
   dsimp only
   rw [if_neg (by omega), if_neg (by omega), show 224 + r - 224 = r by omega]
   have h1 := l0_more s 3 r 1 1 (k + 59) (by omega) (by omega) (by omega)
   have h2 := l0_more s 3 r 64 2 (k + 58) (by omega) (by omega) (by omega)
   have h3 := l0_end s 3 r 4096 (k + 54) (by omega) (by omega) (by omega)
   rw [am_3 (by omega), if_pos rfl] at h3
   refine Eq.trans h1 (Eq.trans h2 (Eq.trans h3 ?_))
   have := l1_three s hs r _ _ (k + 47) (by omega) rfl rfl h0
   rw [hd] at this
   exact this
  ·obtain ⟨r, hr⟩ : ∃ r, c.toNat = 240 + r := ⟨c.toNat - 240, by omega⟩
   rw [show leadS c.toNat = (4, c.toNat - 240) from e, hr, f_4 (by omega)]
   dsimp only
   rw [if_neg (by omega), show 240 + r - 240 = r by omega]
   have h1 := l0_more s 4 r 1 1 (k + 59) (by omega) (by omega) (by omega)
   have h2 := l0_more s 4 r 64 2 (k + 58) (by omega) (by omega) (by omega)
   have h3 := l0_more s 4 r 4096 3 (k + 57) (by omega) (by omega) (by omega)
   have h4 := l0_end s 4 r 262144 (k + 53) (by omega) (by omega) (by omega)
   rw [am_4 (by omega)] at h4
   refine Eq.trans h1 (Eq.trans h2 (Eq.trans h3 (Eq.trans h4 ?_)))
   by_cases g : r ≤ 4
   ·rw [decide_eq_true g, if_pos rfl, if_pos g]
    dsimp only
    rw [if_neg (by omega)]
    have := l1_four s hs r _ _ (k + 42) g rfl rfl h0
    rw [hd] at this
    exact this
   ·rw [decide_eq_false g, if_neg (by simp), if_neg g]; rfl
  ·have hf := f_0' ⟨c.toNat, hc⟩ (by rw [show leadS c.toNat = (0, 0) from e])
   rw [show leadS c.toNat = (0, 0) from e, show firstS c.toNat = (0, 0, 0, 0) from hf]; rfl
theorem refcount_s0 {l : List UInt8} {rs : List Int} {b : Bool} (h : Rdc l rs b) : ∀ (s : ByteArray) (x i k : Nat), s.data.toList.drop i = l → i ≤ s.size → s.size ≤ 140737488351232 → x + l.length ≤ 140737488351232 → l.length + 70 ≤ k →
  r01_Count.s0 k s x i = some (if b = true then ((x + rs.length : Nat) : Int) else -1) := by
 induction h with
 | nil =>
  intro s x i k hs hi hz hx hk
  obtain ⟨k, rfl⟩ : ∃ j, k = j + 1 := ⟨k - 1, by omega⟩
  have : s.size ≤ i := by rw [size_eq]; exact List.drop_eq_nil_iff.1 hs
  have e : ¬ (i : Int) < (s.size : Int) := by omega
  simp only [r01_Count.s0, r01_Count.s0c, cond_true, cond_false, if_b, decide_eq_true_eq, Bool.and_eq_true, Bool.or_eq_true, beq_iff_eq, bne_iff_ne, ne_eq, Bool.not_eq_true', Bool.not_eq_false', Bool.true_and, Bool.and_true, Bool.false_eq_true, if_false, if_true, true_and, and_true, os, Option.bind_none, ofs, beq_eq_false_iff_ne, decide_eq_false_iff_not, toList_iff, e]; rfl
 | @bad l r n e hn hq he =>
  intro s x i k hs hi hz hx hk
  obtain ⟨k, rfl⟩ : ∃ j, k = j + 1 := ⟨k - 1, by omega⟩
  have hlt : i < s.size := by
   rcases Nat.lt_or_ge i s.size with z | z
   ·exact z
   ·exact absurd (hs.symm.trans (List.drop_eq_nil_of_le (by rw [← size_eq]; exact z))) hn
  have hd := drop_data' s i
  have hdz : (s.extract i (Int.toNat (s.size : Int))).size ≤ s.size := by rw [size_eq, hd, List.length_drop, ← size_eq]; omega
  have e0 : (i : Int) < (s.size : Int) := by omega
  have e1 : ((0 : Int) ≤ (i : Int) ∧ (i : Int) ≤ (s.size : Int)) ∧ (s.size : Int) ≤ (s.size : Int) := by omega
  simp only [r01_Count.s0, r01_Count.s0c, cond_true, cond_false, if_b, decide_eq_true_eq, Bool.and_eq_true, Bool.or_eq_true, beq_iff_eq, bne_iff_ne, ne_eq, Bool.not_eq_true', Bool.not_eq_false', Bool.true_and, Bool.and_true, Bool.false_eq_true, if_false, if_true, true_and, and_true, os, Option.bind_none, ofs, beq_eq_false_iff_ne, decide_eq_false_iff_not, toList_iff, e0, e1, Int.toNat_natCast (n := i), refnext_eq (s := s.extract i (Int.toNat (s.size : Int))) (k := k) (by omega) (by omega), hd, hs, hq, he, not_false_eq_true]
 | @cons l r n rs b hn hq hr ih =>
  intro s x i k hs hi hz hx hk
  obtain ⟨k, rfl⟩ : ∃ j, k = j + 1 := ⟨k - 1, by omega⟩
  have hlt : i < s.size := by
   rcases Nat.lt_or_ge i s.size with z | z
   ·exact z
   ·exact absurd (hs.symm.trans (List.drop_eq_nil_of_le (by rw [← size_eq]; exact z))) hn
  have ho := next_ok hq
  have hd := drop_data' s i
  have hll : l.length = s.size - i := by rw [← hs, List.length_drop, ← size_eq]
  have hdz : (s.extract i (Int.toNat (s.size : Int))).size ≤ s.size := by rw [size_eq, hd, List.length_drop, ← size_eq]; omega
  have e1 : IntKind.wrap IntKind.i64 ((x : Int) + 1) = ((x + 1 : Nat) : Int) := by rw [i64w (by omega) (by omega)]; omega
  have e2 : IntKind.wrap IntKind.i64 ((i : Int) + n) = ((i + n.toNat : Nat) : Int) := by rw [i64w (by omega) (by omega)]; omega
  have e0 : (i : Int) < (s.size : Int) := by omega
  have e3 : ((0 : Int) ≤ (i : Int) ∧ (i : Int) ≤ (s.size : Int)) ∧ (s.size : Int) ≤ (s.size : Int) := by omega
  have := ih s (x + 1) (i + n.toNat) k (by rw [← List.drop_drop, hs]) (by omega) hz (by rw [List.length_drop]; omega) (by rw [List.length_drop]; omega)
  simp only [r01_Count.s0, r01_Count.s0c, cond_true, cond_false, if_b, decide_eq_true_eq, Bool.and_eq_true, Bool.or_eq_true, beq_iff_eq, bne_iff_ne, ne_eq, Bool.not_eq_true', Bool.not_eq_false', Bool.true_and, Bool.and_true, Bool.false_eq_true, if_false, if_true, true_and, and_true, os, Option.bind_none, ofs, beq_eq_false_iff_ne, decide_eq_false_iff_not, toList_iff, e0, e3, Int.toNat_natCast (n := i), refnext_eq (s := s.extract i (Int.toNat (s.size : Int))) (k := k) (by omega) (by omega), hd, hs, hq, not_true_eq_false, e1, e2, this]
  congr 1
  split
  ·simp; omega
  ·rfl
theorem refvalid_eq {s : ByteArray} {rs : List Int} {b : Bool} {k : Nat} (h : Rdc s.data.toList rs b) (hz : s.size ≤ 140737488351232) (hk : s.size + 70 ≤ k) : r01_Valid.f k s = some b := by
 have := refcount_s0 h s 0 0 k rfl (by omega) hz (by rw [← size_eq]; omega) (by rw [← size_eq]; omega)
 have h5 : r01_Count.f k s = some (if b = true then ((0 + rs.length : Nat) : Int) else -1) := by
  simp only [r01_Count.f, r01_Count.c, ofs]; exact this
 simp only [r01_Valid.f, r01_Valid.c, h5, os]
 cases b
 ·rfl
 ·rw [if_pos rfl]; exact congrArg some (decide_eq_true (show ((0 + rs.length : Nat) : Int) ≥ 0 by omega))
end Go.Proofs.YtimadphjdkjgaaaGreatDoor.Aev
