
/- All characters of a text; the document's package utf. -/
import Derived.Test.YtdbbkmmillnaiaaDoorF3
import Derived.Test.YtdbbkmmillnaiaaDoorUtfA
namespace Go.Proofs.YtdbbkmmillnaiaaDoor.Aev
open Go
set_option linter.unusedVariables false
set_option linter.unusedSimpArgs false
set_option maxRecDepth 100000
/-- How far a character reaches. -/
theorem cont_ok (w : Nat) : ∀ (n r lo hi : Nat) (t : List UInt8) (q m : Int), contS w n r lo hi t = (q, m, 0) → m = w ∧ n ≤ t.length := by
  intro n
  induction n with
  | zero => intro r lo hi t q m h; simp [contS] at h; exact ⟨h.2.symm, by omega⟩
  | succ n ih =>
    intro r lo hi t q m h
    cases t with
    | nil => simp [contS] at h
    | cons c t =>
      rw [contS] at h
      split at h
      · simp at h
      · obtain ⟨a, b⟩ := ih _ _ _ _ _ _ h
        exact ⟨a, by simp; omega⟩
theorem next_ok {l : List UInt8} {r n : Int} (h : nextS l = (r, n, 0)) : 1 ≤ n ∧ n ≤ 4 ∧ n ≤ l.length := by
  cases l with
  | nil => simp [nextS] at h
  | cons c t =>
    obtain ⟨f1, f2, f3⟩ := first_range c.toNat c.toNat_lt
    rw [nextS] at h
    split at h
    · simp at h
    · obtain ⟨a, b⟩ := cont_ok _ _ _ _ _ _ _ _ h
      simp only [List.length_cons]
      omega
/-- A text's characters up to an error; and whether there is none. -/
inductive Rdc : List UInt8 → List Int → Bool → Prop
  | nil : Rdc [] [] true
  | bad {l : List UInt8} {r n e : Int} : l ≠ [] → nextS l = (r, n, e) → e ≠ 0 → Rdc l [] false
  | cons {l : List UInt8} {r n : Int} {rs : List Int} {b : Bool} : l ≠ [] → nextS l = (r, n, 0) → Rdc (l.drop n.toNat) rs b → Rdc l (r :: rs) b
theorem rd_ex : ∀ (m : Nat) (l : List UInt8), l.length ≤ m → ∃ rs b, Rdc l rs b := by
  intro m
  induction m with
  | zero =>
    intro l h
    obtain rfl : l = [] := List.eq_nil_of_length_eq_zero (by omega)
    exact ⟨_, _, .nil⟩
  | succ m ih =>
    intro l h
    by_cases hn : l = []
    · subst hn; exact ⟨_, _, .nil⟩
    · obtain ⟨r, n, e, hq⟩ : ∃ r n e, nextS l = (r, n, e) := ⟨_, _, _, rfl⟩
      by_cases he : e = 0
      · subst he
        have := next_ok hq
        obtain ⟨rs, b, hr⟩ := ih (l.drop n.toNat) (by rw [List.length_drop]; omega)
        exact ⟨_, _, .cons hn hq hr⟩
      · exact ⟨_, _, .bad hn hq he⟩
theorem rd_len {l : List UInt8} {rs : List Int} {b : Bool} (h : Rdc l rs b) : rs.length ≤ l.length := by
  induction h with
  | nil => simp
  | bad => simp
  | cons hn hq _ ih =>
    have := next_ok hq
    rw [List.length_drop] at ih
    simp only [List.length_cons]; omega
theorem count_s0 {l : List UInt8} {rs : List Int} {b : Bool} (h : Rdc l rs b) : ∀ (s : ByteArray) (x k : Nat), s.data.toList = l → s.size ≤ 140737488351232 → x + l.length ≤ 140737488351232 → l.length + 30 ≤ k →
    utf_Count.s0 k s x = some (if b = true then ((x + rs.length : Nat) : Int) else -1) := by
  induction h with
  | nil =>
    intro s x k hs hz hx hk
    obtain ⟨k, rfl⟩ : ∃ j, k = j + 1 := ⟨k - 1, by omega⟩
    simp only [utf_Count.s0, utf_Count.s0c, cond_true, cond_false, if_b, decide_eq_true_eq, Bool.and_eq_true, Bool.or_eq_true, beq_iff_eq, bne_iff_ne, ne_eq, Bool.not_eq_true', Bool.not_eq_false', Bool.true_and, Bool.and_true, Bool.false_eq_true, if_false, if_true, true_and, and_true, Option.bind_some, Option.bind_none, Option.bind_fun_some, beq_eq_false_iff_ne, decide_eq_false_iff_not, toList_iff, data_nil.1 hs, not_true_eq_false]; rfl
  | bad hn hq he =>
    intro s x k hs hz hx hk
    obtain ⟨k, rfl⟩ : ∃ j, k = j + 1 := ⟨k - 1, by omega⟩
    have hne : ¬ s = ByteArray.mk (List.toArray []) := fun e => hn (hs.symm.trans (data_nil.2 e))
    simp only [utf_Count.s0, utf_Count.s0c, cond_true, cond_false, if_b, decide_eq_true_eq, Bool.and_eq_true, Bool.or_eq_true, beq_iff_eq, bne_iff_ne, ne_eq, Bool.not_eq_true', Bool.not_eq_false', Bool.true_and, Bool.and_true, Bool.false_eq_true, if_false, if_true, true_and, and_true, Option.bind_some, Option.bind_none, Option.bind_fun_some, beq_eq_false_iff_ne, decide_eq_false_iff_not, toList_iff, hne, next_eq (s := s) (k := k) (by omega) (by omega), hs, hq, he, not_false_eq_true]
  | @cons l r n rs b hn hq hr ih =>
    intro s x k hs hz hx hk
    obtain ⟨k, rfl⟩ : ∃ j, k = j + 1 := ⟨k - 1, by omega⟩
    have ho := next_ok hq
    have hsz : s.size = l.length := by rw [size_eq, hs]
    have hd := drop_data' s n.toNat
    have hdz : (s.extract n.toNat (Int.toNat (s.size : Int))).size = l.length - n.toNat := by rw [size_eq, hd, hs, List.length_drop]
    have e1 : IntKind.wrap IntKind.i64 ((x : Int) + 1) = ((x + 1 : Nat) : Int) := by rw [i64w (by omega) (by omega)]; omega
    have hne : ¬ s = ByteArray.mk (List.toArray []) := fun e => hn (hs.symm.trans (data_nil.2 e))
    have g : ((0 : Int) ≤ n ∧ n ≤ (s.size : Int)) ∧ ((s.size : Int) ≤ (s.size : Int)) := by omega
    have := ih (s.extract n.toNat (Int.toNat (s.size : Int))) (x + 1) k (by rw [hd, hs]) (by omega) (by rw [List.length_drop]; omega) (by rw [List.length_drop]; omega)
    simp only [utf_Count.s0, utf_Count.s0c, cond_true, cond_false, if_b, decide_eq_true_eq, Bool.and_eq_true, Bool.or_eq_true, beq_iff_eq, bne_iff_ne, ne_eq, Bool.not_eq_true', Bool.not_eq_false', Bool.true_and, Bool.and_true, Bool.false_eq_true, if_false, if_true, true_and, and_true, Option.bind_some, Option.bind_none, Option.bind_fun_some, beq_eq_false_iff_ne, decide_eq_false_iff_not, toList_iff, hne, next_eq (s := s) (k := k) (by omega) (by omega), hs, hq, not_false_eq_true, not_true_eq_false, g, e1, this]
    congr 1
    split
    · simp; omega
    · rfl
theorem count_eq {s : ByteArray} {rs : List Int} {b : Bool} {k : Nat} (h : Rdc s.data.toList rs b) (hz : s.size ≤ 140737488351232) (hk : s.size + 30 ≤ k) : utf_Count.f k s = some (if b = true then (rs.length : Int) else -1) := by
  have := count_s0 h s 0 k rfl hz (by rw [← size_eq]; omega) (by rw [← size_eq]; omega)
  simp only [utf_Count.f, utf_Count.c, Option.bind_fun_some]
  rw [Nat.zero_add] at this
  exact this
theorem valid_eq {s : ByteArray} {rs : List Int} {b : Bool} {k : Nat} (h : Rdc s.data.toList rs b) (hz : s.size ≤ 140737488351232) (hk : s.size + 30 ≤ k) : utf_Valid.f k s = some b := by
  simp only [utf_Valid.f, utf_Valid.c, count_eq h hz hk, Option.bind_some]
  cases b
  · rw [if_neg (by simp)]; rfl
  · rw [if_pos rfl, decide_eq_true (by omega)]
/-- What stands behind a character does not count. -/
theorem cont_append (w : Nat) : ∀ (n r lo hi : Nat) (t u : List UInt8) (q m : Int), contS w n r lo hi t = (q, m, 0) → contS w n r lo hi (t ++ u) = (q, m, 0) := by
  intro n
  induction n with
  | zero => intro r lo hi t u q m h; simpa [contS] using h
  | succ n ih =>
    intro r lo hi t u q m h
    cases t with
    | nil => simp [contS] at h
    | cons c t =>
      rw [contS] at h
      rw [List.cons_append, contS]
      split at h
      · simp at h
      · rename_i hc
        rw [if_neg hc]
        exact ih _ _ _ _ _ _ _ h
theorem next_append {l u : List UInt8} {r n : Int} (h : nextS l = (r, n, 0)) : nextS (l ++ u) = (r, n, 0) := by
  cases l with
  | nil => simp [nextS] at h
  | cons c t =>
    rw [nextS] at h
    rw [List.cons_append, nextS]
    split at h
    · simp at h
    · rename_i hc
      rw [if_neg hc]
      exact cont_append _ _ _ _ _ _ _ _ _ h
theorem rd_append {l u : List UInt8} {rs qs : List Int} {b c : Bool} (h : Rdc l rs b) (hb : b = true) (hu : Rdc u qs c) : Rdc (l ++ u) (rs ++ qs) c := by
  induction h with
  | nil => exact hu
  | bad => exact absurd hb (by simp)
  | @cons l r n rs b hn hq hr ih =>
    have ho := next_ok hq
    rw [List.cons_append]
    refine .cons (by simp [hn]) (next_append hq) ?_
    rw [List.drop_append_of_le_length (by omega)]
    exact ih hb
/-- Is one of the numbers a character of so many bytes? -/
def amS (lo hi : Nat) (w : Nat) : Bool :=
  decide (max lo (if w = 2 then 128 else if w = 3 then 2048 else if w = 4 then 65536 else 0) ≤ min hi (if w = 2 then 2047 else if w = 3 then 65535 else if w = 4 then 1114111 else 127) ∧
    (max lo (if w = 2 then 128 else if w = 3 then 2048 else if w = 4 then 65536 else 0) < 55296 ∨ 57343 < min hi (if w = 2 then 2047 else if w = 3 then 65535 else if w = 4 then 1114111 else 127)))
theorem among_end (a b : Int) (c d : Bool) (h1 : ¬ a > b ∧ (a < 55296 ∨ b > 57343) ↔ c = true) : (if a > b then some false else if a < 55296 then some true else some (decide (b > 57343))) = some c := by
  by_cases x : a > b
  · rw [if_pos x]; cases c
    · rfl
    · exact absurd x (h1.2 rfl).1
  · rw [if_neg x]
    by_cases y : a < 55296
    · rw [if_pos y, h1.1 ⟨x, .inl y⟩]
    · rw [if_neg y]
      cases c
      · rw [decide_eq_false (fun z => by have := h1.1 ⟨x, .inr z⟩; simp at this)]
      · rw [decide_eq_true ((h1.2 rfl).2.resolve_left y)]
theorem amx (x y : Int) : (if x > y then x else y) = max y x := by split <;> omega
theorem amn (x y : Int) : (if x < y then x else y) = min y x := by split <;> omega
theorem am2 {r x : Nat} (h1 : 2 ≤ r) (h2 : r ≤ 31) (hx : x < 64) : amS ((r * 64 + x) * 1) ((r * 64 + x) * 1 + 1 - 1) 2 = true := by
  unfold amS; rw [decide_eq_true_eq]; simp only [if_true]; omega
theorem am3 {r c lo hi : Nat} (h1 : r ≤ 15) (hc1 : 128 ≤ c) (hc2 : c ≤ 191) (hlo : lo = if r = 0 then 160 else 128) (hhi : hi = if r = 13 then 159 else 191) :
    amS ((r * 64 + c % 64) * 64) ((r * 64 + c % 64) * 64 + 64 - 1) 3 = decide (lo ≤ c ∧ c ≤ hi) := by
  unfold amS
  rw [decide_eq_decide]
  simp only [if_neg (show ¬ 3 = 2 by omega), if_true]
  subst hlo hhi
  by_cases r0 : r = 0
  · rw [if_pos r0, if_neg (show ¬ r = 13 by omega)]; omega
  · rw [if_neg r0]
    by_cases r13 : r = 13
    · rw [if_pos r13]; omega
    · rw [if_neg r13]; omega
theorem am3b {r c d lo hi : Nat} (h1 : r ≤ 15) (hc1 : 128 ≤ c) (hc2 : c ≤ 191) (hlo : lo = if r = 0 then 160 else 128) (hhi : hi = if r = 13 then 159 else 191) (e : lo ≤ c ∧ c ≤ hi) (hd : d < 64) :
    amS (((r * 64 + c % 64) * 64 + d) * 1) (((r * 64 + c % 64) * 64 + d) * 1 + 1 - 1) 3 = true := by
  unfold amS
  rw [decide_eq_true_eq]
  simp only [if_neg (show ¬ 3 = 2 by omega), if_true]
  subst hlo hhi
  split at e <;> split at e <;> omega
theorem am4 {r c lo hi : Nat} (h1 : r ≤ 4) (hc1 : 128 ≤ c) (hc2 : c ≤ 191) (hlo : lo = if r = 0 then 144 else 128) (hhi : hi = if r = 4 then 143 else 191) :
    amS ((r * 64 + c % 64) * 4096) ((r * 64 + c % 64) * 4096 + 4096 - 1) 4 = decide (lo ≤ c ∧ c ≤ hi) := by
  unfold amS
  rw [decide_eq_decide]
  simp only [if_neg (show ¬ 4 = 2 by omega), if_neg (show ¬ 4 = 3 by omega), if_true]
  subst hlo hhi
  by_cases r0 : r = 0
  · rw [if_pos r0, if_neg (show ¬ r = 4 by omega)]; omega
  · rw [if_neg r0]
    by_cases r13 : r = 4
    · rw [if_pos r13]; omega
    · rw [if_neg r13]; omega
theorem am4r {r c lo hi : Nat} (h1 : r ≤ 4) (hc1 : 128 ≤ c) (hc2 : c ≤ 191) (hlo : lo = if r = 0 then 144 else 128) (hhi : hi = if r = 4 then 143 else 191) (e : lo ≤ c ∧ c ≤ hi) : 16 ≤ r * 64 + c % 64 ∧ r * 64 + c % 64 ≤ 271 := by
  subst hlo hhi
  split at e <;> split at e <;> omega
theorem am4b {r d : Nat} (h1 : 16 ≤ r) (h2 : r ≤ 271) (hd : d < 64) : amS ((r * 64 + d) * 64) ((r * 64 + d) * 64 + 64 - 1) 4 = true := by
  unfold amS
  rw [decide_eq_true_eq]
  simp only [if_neg (show ¬ 4 = 2 by omega), if_neg (show ¬ 4 = 3 by omega), if_true]
  omega
theorem am4c {r d : Nat} (h1 : 1024 ≤ r) (h2 : r ≤ 17407) (hd : d < 64) : amS ((r * 64 + d) * 1) ((r * 64 + d) * 1 + 1 - 1) 4 = true := by
  unfold amS
  rw [decide_eq_true_eq]
  simp only [if_neg (show ¬ 4 = 2 by omega), if_neg (show ¬ 4 = 3 by omega), if_true]
  omega
theorem w_shift {r c : Nat} (hr : r ≤ 1048576) (h1 : 128 ≤ c) (h2 : c ≤ 191) : IntKind.wrap IntKind.i64 (IntKind.wrap IntKind.i64 (IntKind.wrap IntKind.i64 ((r : Int) * 64) + (c : Int)) - 128) = ((r * 64 + c % 64 : Nat) : Int) := by
  rw [i64w (n := (r : Int) * 64) (by omega) (by omega), i64w (n := (r : Int) * 64 + (c : Int)) (by omega) (by omega), i64w (by omega) (by omega)]; omega
theorem w_div {q : Nat} (hq : q ≤ 4096) : IntKind.wrap IntKind.i64 (Int.tdiv ((64 * q : Nat) : Int) 64) = (q : Int) := by
  rw [Int.tdiv_eq_ediv_of_nonneg (by omega), i64w (by omega) (by omega)]; omega
theorem w_mul {m q : Nat} (hm : m ≤ 67108928) (hq : q ≤ 4096) : IntKind.wrap IntKind.i64 ((m : Int) * (q : Int)) = ((m * q : Nat) : Int) ∧ (1 ≤ q → IntKind.wrap IntKind.i64 (IntKind.wrap IntKind.i64 (((m * q : Nat) : Int) + (q : Int)) - 1) = ((m * q + q - 1 : Nat) : Int)) := by
  have h : m * q ≤ 274878169088 := Nat.mul_le_mul hm hq
  rw [← Int.natCast_mul]
  generalize m * q = P at h
  refine ⟨i64w (by omega) (by omega), fun h1 => ?_⟩
  rw [i64w (n := (P : Int) + (q : Int)) (by omega) (by omega), i64w (by omega) (by omega)]; omega
def leadS (c : Nat) : Nat × Nat := if c < 128 then (1, c) else if 192 ≤ c ∧ c < 224 then (2, c - 192) else if 224 ≤ c ∧ c < 240 then (3, c - 224) else if 240 ≤ c ∧ c < 248 then (4, c - 240) else (0, 0)
theorem w_mul' {m q : Nat} (hm : m ≤ 128) (hq1 : 1 ≤ q) (hq : q ≤ 262144) : IntKind.wrap IntKind.i64 ((m : Int) * (q : Int)) = ((m * q : Nat) : Int) ∧ IntKind.wrap IntKind.i64 (IntKind.wrap IntKind.i64 (((m * q : Nat) : Int) + (q : Int)) - 1) = ((m * q + q - 1 : Nat) : Int) := by
  have h : m * q ≤ 33554432 := Nat.mul_le_mul hm hq
  rw [← Int.natCast_mul]
  generalize m * q = P at h
  refine ⟨i64w (by omega) (by omega), ?_⟩
  rw [i64w (n := (P : Int) + (q : Int)) (by omega) (by omega), i64w (by omega) (by omega)]; omega
theorem am_1 {c : Nat} (h : c < 128) : amS (c * 1) (c * 1 + 1 - 1) 1 = true := by
  unfold amS; rw [decide_eq_true_eq]; simp only [if_neg (show ¬ 1 = 2 by omega), if_neg (show ¬ 1 = 3 by omega), if_neg (show ¬ 1 = 4 by omega)]; omega
theorem am_2 {r : Nat} (h : r ≤ 31) : amS (r * 64) (r * 64 + 64 - 1) 2 = decide (2 ≤ r) := by
  unfold amS; rw [decide_eq_decide]; simp only [if_true]; omega
theorem am_3 {r : Nat} (h : r ≤ 15) : amS (r * 4096) (r * 4096 + 4096 - 1) 3 = true := by
  unfold amS; rw [decide_eq_true_eq]; simp only [if_neg (show ¬ 3 = 2 by omega), if_true]; omega
theorem am_4 {r : Nat} (h : r ≤ 7) : amS (r * 262144) (r * 262144 + 262144 - 1) 4 = decide (r ≤ 4) := by
  unfold amS; rw [decide_eq_decide]; simp only [if_neg (show ¬ 4 = 2 by omega), if_neg (show ¬ 4 = 3 by omega), if_true]; omega
theorem f_1 {c : Nat} (h : c < 128) : firstS c = (1, c, 0, 0) := by unfold firstS; rw [if_pos h]
theorem f_2' : ∀ r : Fin 32, firstS (192 + r.val) = if 2 ≤ r.val then (2, r.val, 128, 191) else (0, 0, 0, 0) := by decide +kernel
theorem f_2 {r : Nat} (h : r ≤ 31) : firstS (192 + r) = if 2 ≤ r then (2, r, 128, 191) else (0, 0, 0, 0) := f_2' ⟨r, by omega⟩
theorem f_3' : ∀ r : Fin 16, firstS (224 + r.val) = (3, r.val, if r.val = 0 then 160 else 128, if r.val = 13 then 159 else 191) := by decide +kernel
theorem f_3 {r : Nat} (h : r ≤ 15) : firstS (224 + r) = (3, r, if r = 0 then 160 else 128, if r = 13 then 159 else 191) := f_3' ⟨r, by omega⟩
theorem f_4' : ∀ r : Fin 8, firstS (240 + r.val) = if r.val ≤ 4 then (4, r.val, if r.val = 0 then 144 else 128, if r.val = 4 then 143 else 191) else (0, 0, 0, 0) := by decide +kernel
theorem f_4 {r : Nat} (h : r ≤ 7) : firstS (240 + r) = if r ≤ 4 then (4, r, if r = 0 then 144 else 128, if r = 4 then 143 else 191) else (0, 0, 0, 0) := f_4' ⟨r, by omega⟩
theorem f_0' : ∀ c : Fin 256, (leadS c.val).1 = 0 → firstS c.val = (0, 0, 0, 0) := by decide +kernel
theorem lead_cases' : ∀ c : Fin 256, c.val < 128 ∧ leadS c.val = (1, c.val) ∨ 192 ≤ c.val ∧ c.val < 224 ∧ leadS c.val = (2, c.val - 192) ∨ 224 ≤ c.val ∧ c.val < 240 ∧ leadS c.val = (3, c.val - 224) ∨ 240 ≤ c.val ∧ c.val < 248 ∧ leadS c.val = (4, c.val - 240) ∨ leadS c.val = (0, 0) := by decide +kernel
theorem lead_cases {c : Nat} (h : c < 256) : c < 128 ∧ leadS c = (1, c) ∨ 192 ≤ c ∧ c < 224 ∧ leadS c = (2, c - 192) ∨ 224 ≤ c ∧ c < 240 ∧ leadS c = (3, c - 224) ∨ 240 ≤ c ∧ c < 248 ∧ leadS c = (4, c - 240) ∨ leadS c = (0, 0) := lead_cases' ⟨c, h⟩
end Go.Proofs.YtdbbkmmillnaiaaDoor.Aev
