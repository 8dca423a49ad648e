
/- Plain lemmas: the order of keys; where a key stands in lines that rise; splices and merges. No program here. -/
import Derived.Test.YtdbbkmmillnaiaaGreatDoorBa
namespace Go.Proofs.YtdbbkmmillnaiaaGreatDoor.Aev
open Go
set_option linter.unusedVariables false
set_option linter.unusedSimpArgs false
theorem bl_irr : ∀ a : List UInt8, Op.bytesLess a a = false
  | [] => rfl
  | c :: a => by
    have h : ¬ c < c := by rw [UInt8.lt_iff_toNat_lt]; omega
    simp [Op.bytesLess, h, bl_irr a]
theorem bl_trans : ∀ {a b c : List UInt8}, Op.bytesLess a b = true → Op.bytesLess b c = true → Op.bytesLess a c = true
  | _, _, [], _, h => by simp [Op.bytesLess] at h
  | [], _, _ :: _, _, _ => rfl
  | _ :: _, [], _ :: _, h, _ => by simp [Op.bytesLess] at h
  | x :: a, y :: b, z :: c, h1, h2 => by
    simp only [Op.bytesLess, Bool.or_eq_true, Bool.and_eq_true, decide_eq_true_eq, beq_iff_eq, UInt8.lt_iff_toNat_lt] at h1 h2 ⊢
    rcases h1 with h1 | ⟨rfl, h1⟩
    · rcases h2 with h2 | ⟨rfl, h2⟩
      · exact .inl (by omega)
      · exact .inl h1
    · rcases h2 with h2 | ⟨rfl, h2⟩
      · exact .inl h2
      · exact .inr ⟨rfl, bl_trans h1 h2⟩
theorem bl_total : ∀ {a b : List UInt8}, Op.bytesLess a b = false → a ≠ b → Op.bytesLess b a = true
  | [], [], _, h => absurd rfl h
  | [], _ :: _, h, _ => by simp [Op.bytesLess] at h
  | _ :: _, [], _, _ => rfl
  | x :: a, y :: b, h, hn => by
    simp only [Op.bytesLess, Bool.or_eq_false_iff, Bool.and_eq_false_iff, decide_eq_false_iff_not, beq_eq_false_iff_ne, UInt8.lt_iff_toNat_lt] at h
    simp only [Op.bytesLess, Bool.or_eq_true, Bool.and_eq_true, decide_eq_true_eq, beq_iff_eq, UInt8.lt_iff_toNat_lt]
    by_cases e : x = y
    · subst e
      refine .inr ⟨rfl, bl_total ?_ (fun e => hn (by rw [e]))⟩
      rcases h.2 with h | h
      · exact absurd rfl h
      · exact h
    · have h0 := h.1
      have h1 : ¬ x.toNat = y.toNat := fun e' => e (UInt8.toNat_inj.1 e')
      exact .inl (by omega)
/-- does a key come ahead of another one? -/
def ltK (a b : ByteArray) : Bool := Op.bytesLess a.toList b.toList
theorem ltK_irr (a : ByteArray) : ltK a a = false := bl_irr _
theorem ltK_trans {a b c : ByteArray} (h : ltK a b = true) (h' : ltK b c = true) : ltK a c = true := bl_trans h h'
theorem ltK_total {a b : ByteArray} (h : ltK a b = false) (h' : a ≠ b) : ltK b a = true := bl_total h fun e => h' (toList_inj e)
theorem ltK_asym {a b : ByteArray} (h : ltK a b = true) : ltK b a = false := by
  cases h' : ltK b a with
  | false => rfl
  | true => have := ltK_trans h h'; rw [ltK_irr] at this; cases this
theorem ltK_ne {a b : ByteArray} (h : ltK a b = true) : a ≠ b := fun e => by subst e; rw [ltK_irr] at h; cases h
theorem ltK_le {a b c : ByteArray} (h : ltK b a = false) (h' : ltK b c = true) : ltK a c = true := by
  by_cases e : a = b
  · subst e; exact h'
  · exact ltK_trans (ltK_total h (fun e' => e e'.symm)) h'
theorem leK_lt {a b c : ByteArray} (h : ltK a b = true) (h' : ltK c b = false) : ltK a c = true := by
  by_cases e : b = c
  · subst e; exact h
  · exact ltK_trans h (ltK_total h' (fun e' => e e'.symm))
section
variable {R : Type}
/-- do the keys rise? -/
def Rise (l : List (ByteArray × R)) : Prop := l.Pairwise fun x y => ltK x.1 y.1 = true
/-- the first place not below a key -/
def pos (l : List (ByteArray × R)) (key : ByteArray) : Nat := l.findIdx fun x => !(ltK x.1 key)
theorem pos_nil (key : ByteArray) : pos ([] : List (ByteArray × R)) key = 0 := rfl
theorem pos_cons (x : ByteArray × R) (l : List (ByteArray × R)) (key : ByteArray) : pos (x :: l) key = if ltK x.1 key = true then pos l key + 1 else 0 := by
  unfold pos
  rw [List.findIdx_cons]
  cases ltK x.1 key <;> rfl
theorem pos_le (l : List (ByteArray × R)) (key : ByteArray) : pos l key ≤ l.length := List.findIdx_le_length
theorem pos_below {l : List (ByteArray × R)} {key : ByteArray} {i : Nat} (h : i < pos l key) (hi : i < l.length) : ltK l[i].1 key = true := by
  have := List.not_of_lt_findIdx h
  simpa using this
theorem pos_at {l : List (ByteArray × R)} {key : ByteArray} (h : pos l key < l.length) : ltK (l[pos l key]).1 key = false := by
  have := List.findIdx_getElem (p := fun x : ByteArray × R => !(ltK x.1 key)) (xs := l) (w := h)
  have h2 : (!(ltK (l[pos l key]).1 key)) = true := this
  simpa using h2
theorem pos_uniq {l : List (ByteArray × R)} {key : ByteArray} {p : Nat} (hp : p ≤ l.length) (h1 : ∀ i (h : i < l.length), i < p → ltK l[i].1 key = true) (h2 : ∀ h : p < l.length, ltK l[p].1 key = false) : pos l key = p := by
  rcases Nat.lt_trichotomy (pos l key) p with h | h | h
  · have hl : pos l key < l.length := by omega
    have := pos_at hl
    rw [h1 _ hl h] at this; cases this
  · exact h
  · have hl : p < l.length := by have := pos_le l key; omega
    have := pos_below h hl
    rw [h2 hl] at this; cases this
/-- does a key stand there? -/
def isAt (l : List (ByteArray × R)) (key : ByteArray) : Bool := if h : pos l key < l.length then decide ((l[pos l key]).1 = key) else false
theorem rise_lt {l : List (ByteArray × R)} (h : Rise l) {i j : Nat} (hj : j < l.length) (hij : i < j) : ltK (l[i]).1 (l[j]).1 = true :=
  List.pairwise_iff_getElem.1 h i j (by omega) hj hij
theorem rise_of {l : List (ByteArray × R)} (h : ∀ i (hi : i + 1 < l.length), ltK (l[i]).1 (l[i + 1]).1 = true) : Rise l := by
  refine List.pairwise_iff_getElem.2 fun i j hi hj hij => ?_
  obtain ⟨d, rfl⟩ : ∃ d, j = i + 1 + d := ⟨j - i - 1, by omega⟩
  induction d with
  | zero => exact h i hj
  | succ d ih => exact ltK_trans (ih (by omega) (by omega)) (h (i + 1 + d) hj)
theorem rise_drop {l : List (ByteArray × R)} (h : Rise l) (n : Nat) : Rise (l.drop n) := List.Pairwise.sublist (List.drop_sublist n l) h
theorem rise_take {l : List (ByteArray × R)} (h : Rise l) (n : Nat) : Rise (l.take n) := List.Pairwise.sublist (List.take_sublist n l) h
theorem rise_above {l : List (ByteArray × R)} (h : Rise l) {key : ByteArray} {i : Nat} (hi : i < l.length) (hp : pos l key ≤ i) : ltK l[i].1 key = false := by
  have hl : pos l key < l.length := by omega
  have h0 := pos_at hl
  rcases Nat.lt_or_ge (pos l key) i with h1 | h1
  · have h2 := rise_lt h hi h1
    cases h3 : ltK l[i].1 key with
    | false => rfl
    | true => rw [ltK_trans h2 h3] at h0; cases h0
  · have : i = pos l key := by omega
    subst this; exact h0
theorem take_below {l : List (ByteArray × R)} {key : ByteArray} : ∀ x ∈ l.take (pos l key), ltK x.1 key = true := by
  intro x hx
  obtain ⟨i, hi, rfl⟩ := List.getElem_of_mem hx
  rw [List.length_take] at hi
  rw [List.getElem_take]
  exact pos_below (by omega) _
theorem drop_above {l : List (ByteArray × R)} (h : Rise l) {key : ByteArray} : ∀ x ∈ l.drop (pos l key), ltK x.1 key = false := by
  intro x hx
  obtain ⟨i, hi, rfl⟩ := List.getElem_of_mem hx
  rw [List.length_drop] at hi
  rw [List.getElem_drop]
  exact rise_above h (by omega) (by omega)
theorem drop_over {l : List (ByteArray × R)} (h : Rise l) {key : ByteArray} (hn : isAt l key = false) : ∀ x ∈ l.drop (pos l key), ltK key x.1 = true := by
  intro x hx
  obtain ⟨i, hi, rfl⟩ := List.getElem_of_mem hx
  rw [List.length_drop] at hi
  rw [List.getElem_drop]
  have hl : pos l key < l.length := by omega
  have h1 : (l[pos l key]).1 ≠ key := by
    unfold isAt at hn
    rw [dif_pos hl] at hn
    simpa using hn
  have h2 := ltK_total (pos_at hl) h1
  rcases Nat.lt_or_ge 0 i with h3 | h3
  · exact ltK_trans h2 (rise_lt h (by omega) (by omega))
  · have : i = 0 := by omega
    subst this; exact h2
theorem drop_over' {l : List (ByteArray × R)} (h : Rise l) {key : ByteArray} (hn : isAt l key = true) : ∀ x ∈ l.drop (pos l key + 1), ltK key x.1 = true := by
  intro x hx
  obtain ⟨i, hi, rfl⟩ := List.getElem_of_mem hx
  rw [List.length_drop] at hi
  rw [List.getElem_drop]
  have hl : pos l key < l.length := by omega
  have h1 : (l[pos l key]).1 = key := by
    unfold isAt at hn
    rw [dif_pos hl] at hn
    simpa using hn
  have := rise_lt h (i := pos l key) (j := pos l key + 1 + i) (by omega) (by omega)
  rwa [h1] at this
/-- where lines end that another key's line takes the place of -/
def upto (l : List (ByteArray × R)) (key : ByteArray) : Nat := if isAt l key = true then pos l key + 1 else pos l key
theorem isAt_lt {l : List (ByteArray × R)} {key : ByteArray} (h : isAt l key = true) : ∃ hl : pos l key < l.length, (l[pos l key]).1 = key := by
  unfold isAt at h
  split at h
  · rename_i hl; exact ⟨hl, by simpa using h⟩
  · cases h
theorem upto_le (l : List (ByteArray × R)) (key : ByteArray) : upto l key ≤ l.length := by
  unfold upto
  split
  · rename_i h; obtain ⟨hl, _⟩ := isAt_lt h; exact hl
  · exact pos_le _ _
theorem pos_upto (l : List (ByteArray × R)) (key : ByteArray) : pos l key ≤ upto l key := by unfold upto; split <;> omega
theorem upto_over {l : List (ByteArray × R)} (h : Rise l) {key : ByteArray} : ∀ x ∈ l.drop (upto l key), ltK key x.1 = true := by
  unfold upto
  split
  · rename_i hn; exact drop_over' h hn
  · rename_i hn; exact drop_over h (by simpa using hn)
/-- a line in its place -/
def putL (l : List (ByteArray × R)) (x : ByteArray × R) : List (ByteArray × R) := l.take (pos l x.1) ++ x :: l.drop (upto l x.1)
def delL (l : List (ByteArray × R)) (key : ByteArray) : List (ByteArray × R) := if isAt l key = true then l.take (pos l key) ++ l.drop (pos l key + 1) else l
theorem putL_rise {l : List (ByteArray × R)} (h : Rise l) (x : ByteArray × R) : Rise (putL l x) := by
  refine List.pairwise_append.2 ⟨rise_take h _, List.pairwise_cons.2 ⟨upto_over h, rise_drop h _⟩, ?_⟩
  intro a ha b hb
  have h1 := take_below a ha
  rcases List.mem_cons.1 hb with rfl | hb
  · exact h1
  · exact ltK_trans h1 (upto_over h b hb)
theorem putL_pos {l : List (ByteArray × R)} (x : ByteArray × R) : pos (putL l x) x.1 = pos l x.1 := by
  have hle := pos_le l x.1
  have ht : (l.take (pos l x.1)).length = pos l x.1 := by rw [List.length_take]; omega
  refine pos_uniq (by unfold putL; rw [List.length_append, ht]; omega) ?_ ?_
  · intro i hi hp
    have h1 := take_below (l := l) (key := x.1) ((l.take (pos l x.1))[i]'(by omega)) (List.getElem_mem _)
    have hi' : i < (l.take (pos l x.1) ++ x :: l.drop (upto l x.1)).length := hi
    have h2 : (putL l x)[i] = (l.take (pos l x.1))[i]'(by omega) := by
      show (l.take (pos l x.1) ++ x :: l.drop (upto l x.1))[i]'hi' = _
      rw [List.getElem_append_left (by omega)]
    exact (congrArg (fun y => ltK y.1 x.1) h2).trans h1
  · intro hl
    have hl' : pos l x.1 < (l.take (pos l x.1) ++ x :: l.drop (upto l x.1)).length := hl
    have h2 : (putL l x)[pos l x.1] = x := by
      show (l.take (pos l x.1) ++ x :: l.drop (upto l x.1))[pos l x.1]'hl' = _
      rw [List.getElem_append_right (by omega)]
      simp [ht]
    exact (congrArg (fun y => ltK y.1 x.1) h2).trans (ltK_irr _)
theorem putL_at {l : List (ByteArray × R)} (x : ByteArray × R) : ∃ hl : pos l x.1 < (putL l x).length, (putL l x)[pos l x.1] = x := by
  have hle := pos_le l x.1
  have ht : (l.take (pos l x.1)).length = pos l x.1 := by rw [List.length_take]; omega
  have hl' : pos l x.1 < (l.take (pos l x.1) ++ x :: l.drop (upto l x.1)).length := by rw [List.length_append, ht]; simp
  refine ⟨hl', ?_⟩
  show (l.take (pos l x.1) ++ x :: l.drop (upto l x.1))[pos l x.1]'hl' = _
  rw [List.getElem_append_right (by omega)]
  simp [ht]
theorem putL_isAt {l : List (ByteArray × R)} (x : ByteArray × R) : isAt (putL l x) x.1 = true := by
  obtain ⟨hl, h⟩ := putL_at (l := l) x
  unfold isAt
  simp only [putL_pos]
  rw [dif_pos hl, h]
  simp
theorem putL_mem {l : List (ByteArray × R)} {x y : ByteArray × R} (h : y ∈ putL l x) : y = x ∨ y ∈ l := by
  unfold putL at h
  rcases List.mem_append.1 h with h | h
  · exact .inr (List.mem_of_mem_take h)
  · rcases List.mem_cons.1 h with h | h
    · exact .inl h
    · exact .inr (List.mem_of_mem_drop h)
theorem putL_len (l : List (ByteArray × R)) (x : ByteArray × R) : (putL l x).length ≤ l.length + 1 := by
  unfold putL
  have := pos_upto l x.1
  have := pos_le l x.1
  simp
  omega
theorem delL_put {l : List (ByteArray × R)} {x : ByteArray × R} (h : isAt l x.1 = false) : delL (putL l x) x.1 = l := by
  have hle := pos_le l x.1
  have ht : (l.take (pos l x.1)).length = pos l x.1 := by rw [List.length_take]; omega
  unfold delL
  rw [if_pos (putL_isAt x), putL_pos]
  unfold putL upto
  rw [h]
  simp only [Bool.false_eq_true, if_false]
  have e1 : (l.take (pos l x.1) ++ x :: l.drop (pos l x.1)).take (pos l x.1) = l.take (pos l x.1) := by
    rw [List.take_append_of_le_length (by omega), List.take_take, Nat.min_self]
  have e2 : (l.take (pos l x.1) ++ x :: l.drop (pos l x.1)).drop (pos l x.1 + 1) = l.drop (pos l x.1) := by
    rw [List.drop_append, ht, List.drop_eq_nil_of_le (by omega)]
    simp
  rw [e1, e2, List.take_append_drop]
theorem delL_mem {l : List (ByteArray × R)} {key : ByteArray} {y : ByteArray × R} (h : y ∈ delL l key) : y ∈ l := by
  unfold delL at h
  split at h
  · rcases List.mem_append.1 h with h | h
    · exact List.mem_of_mem_take h
    · exact List.mem_of_mem_drop h
  · exact h
theorem delL_len (l : List (ByteArray × R)) (key : ByteArray) : (delL l key).length ≤ l.length := by
  unfold delL
  split
  · simp; omega
  · exact Nat.le_refl _
/-- two lists' lines, or that a key is in both -/
def mergeL : List (ByteArray × R) → List (ByteArray × R) → Option (List (ByteArray × R))
  | a, [] => some a
  | a, x :: b => if isAt a x.1 = true then none else (mergeL (a.drop (pos a x.1)) b).map fun r => a.take (pos a x.1) ++ x :: r
theorem mergeL_len : ∀ {b a r : List (ByteArray × R)}, mergeL a b = some r → r.length = a.length + b.length
  | [], a, r, h => by simp only [mergeL, Option.some.injEq] at h; subst h; simp
  | x :: b, a, r, h => by
    unfold mergeL at h
    split at h
    · cases h
    · obtain ⟨q, hq, rfl⟩ := Option.map_eq_some_iff.1 h
      have h1 := mergeL_len hq
      have h2 := pos_le a x.1
      rw [List.length_drop] at h1
      rw [List.length_append, List.length_take, List.length_cons, List.length_cons, h1]
      omega
theorem mergeL_mem : ∀ {b a r : List (ByteArray × R)}, mergeL a b = some r → ∀ y ∈ r, y ∈ a ∨ y ∈ b
  | [], a, r, h => by simp only [mergeL, Option.some.injEq] at h; subst h; intro y hy; exact .inl hy
  | x :: b, a, r, h => by
    unfold mergeL at h
    split at h
    · cases h
    · obtain ⟨q, hq, rfl⟩ := Option.map_eq_some_iff.1 h
      intro y hy
      rcases List.mem_append.1 hy with hy | hy
      · exact .inl (List.mem_of_mem_take hy)
      · rcases List.mem_cons.1 hy with rfl | hy
        · exact .inr (List.mem_cons_self ..)
        · rcases mergeL_mem hq y hy with h | h
          · exact .inl (List.mem_of_mem_drop h)
          · exact .inr (List.mem_cons_of_mem _ h)
theorem mergeL_rise : ∀ {b a r : List (ByteArray × R)}, Rise a → Rise b → mergeL a b = some r → Rise r
  | [], a, r, ha, hb, h => by simp only [mergeL, Option.some.injEq] at h; subst h; exact ha
  | x :: b, a, r, ha, hb, h => by
    unfold mergeL at h
    split at h
    · cases h
    · rename_i hn
      obtain ⟨q, hq, rfl⟩ := Option.map_eq_some_iff.1 h
      have hb' := List.pairwise_cons.1 hb
      have hx : ∀ y ∈ q, ltK x.1 y.1 = true := by
        intro y hy
        rcases mergeL_mem hq y hy with h | h
        · exact drop_over ha (by simpa using hn) y h
        · exact hb'.1 y h
      refine List.pairwise_append.2 ⟨rise_take ha _, List.pairwise_cons.2 ⟨hx, mergeL_rise (rise_drop ha _) hb'.2 hq⟩, ?_⟩
      intro y hy z hz
      have h1 := take_below y hy
      rcases List.mem_cons.1 hz with rfl | hz
      · exact h1
      · exact ltK_trans h1 (hx z hz)
/-- the first lines ahead of a key (an empty one: of none), so many at most -/
def rngL (hi : ByteArray) : Nat → List (ByteArray × R) → List (ByteArray × R)
  | 0, _ => []
  | _, [] => []
  | n + 1, x :: l => if hi.size = 0 ∨ ltK x.1 hi = true then x :: rngL hi n l else []
/-- the document's way -/
def rngR (lo hi : ByteArray) : Nat → List (ByteArray × R) → List (ByteArray × R)
  | 0, _ => []
  | _, [] => []
  | n + 1, x :: l => if ltK x.1 lo = false ∧ (hi.size = 0 ∨ ltK x.1 hi = true) then x :: rngR lo hi n l else rngR lo hi (n + 1) l
theorem rngL_over {hi : ByteArray} (h0 : hi.size ≠ 0) : ∀ (n : Nat) {l : List (ByteArray × R)}, (∀ x ∈ l, ltK x.1 hi = false) → rngL hi n l = []
  | 0, _, _ => rfl
  | _ + 1, [], _ => rfl
  | n + 1, x :: l, h => by
    unfold rngL
    rw [if_neg]
    intro h'
    rcases h' with h' | h'
    · exact h0 h'
    · rw [h x (List.mem_cons_self ..)] at h'; cases h'
theorem pos_zero {l : List (ByteArray × R)} {key : ByteArray} (h : ∀ x ∈ l, ltK x.1 key = false) : pos l key = 0 := by
  cases l with
  | nil => rfl
  | cons x l => rw [pos_cons, if_neg (by rw [h x (List.mem_cons_self ..)]; simp)]
theorem above_of {x : ByteArray × R} {l : List (ByteArray × R)} (h : Rise (x :: l)) {key : ByteArray} (hx : ltK x.1 key = false) : ∀ y ∈ l, ltK y.1 key = false := by
  intro y hy
  have h1 := (List.pairwise_cons.1 h).1 y hy
  cases h2 : ltK y.1 key with
  | false => rfl
  | true => rw [ltK_trans h1 h2] at hx; cases hx
theorem rng_eq (lo hi : ByteArray) : ∀ (l : List (ByteArray × R)) (n : Nat), Rise l → rngR lo hi n l = rngL hi n (l.drop (pos l lo))
  | [], 0, _ => rfl
  | _ :: _, 0, _ => by unfold rngR rngL; rfl
  | [], _ + 1, _ => rfl
  | x :: l, n + 1, h => by
    have hl := (List.pairwise_cons.1 h).2
    rw [pos_cons]
    by_cases c : ltK x.1 lo = true
    · rw [if_pos c, List.drop_succ_cons]
      unfold rngR
      rw [if_neg (by rw [c]; simp)]
      exact rng_eq lo hi l (n + 1) hl
    · have c' : ltK x.1 lo = false := by simpa using c
      rw [if_neg c, List.drop_zero]
      have ha := above_of h c'
      unfold rngR rngL
      by_cases d : hi.size = 0 ∨ ltK x.1 hi = true
      · rw [if_pos ⟨c', d⟩, if_pos d, rng_eq lo hi l n hl, pos_zero ha, List.drop_zero]
      · rw [if_neg (fun e => d e.2), if_neg d, rng_eq lo hi l (n + 1) hl, pos_zero ha, List.drop_zero]
        exact rngL_over (fun e => d (.inl e)) _ (above_of h (by
          cases e : ltK x.1 hi with
          | false => rfl
          | true => exact absurd (.inr e) d))
theorem rngL_len (hi : ByteArray) : ∀ (n : Nat) (l : List (ByteArray × R)), (rngL hi n l).length ≤ n ∧ (rngL hi n l).length ≤ l.length
  | 0, _ => ⟨Nat.le_refl _, Nat.zero_le _⟩
  | _ + 1, [] => ⟨Nat.zero_le _, Nat.le_refl _⟩
  | n + 1, x :: l => by
    have := rngL_len hi n l
    unfold rngL
    split
    · simp only [List.length_cons]; omega
    · simp
theorem rngL_mem (hi : ByteArray) : ∀ (n : Nat) (l : List (ByteArray × R)), ∀ x ∈ rngL hi n l, x ∈ l
  | 0, _, x, hx => by simp [rngL] at hx
  | _ + 1, [], x, hx => by simp [rngL] at hx
  | n + 1, y :: l, x, hx => by
    unfold rngL at hx
    split at hx
    · rcases List.mem_cons.1 hx with rfl | hx
      · exact List.mem_cons_self ..
      · exact List.mem_cons_of_mem _ (rngL_mem hi n l x hx)
    · cases hx
end
end Go.Proofs.YtdbbkmmillnaiaaGreatDoor.Aev
