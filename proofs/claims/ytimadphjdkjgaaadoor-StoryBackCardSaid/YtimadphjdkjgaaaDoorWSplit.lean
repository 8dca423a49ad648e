import Derived.Test.YtimadphjdkjgaaaDoorF3
import Derived.Test.YtimadphjdkjgaaaDoorBa

/- A line in words: the program's and the document's ways. -/
namespace Go.Proofs.YtimadphjdkjgaaaDoor.Aev
open Go
set_option linter.unusedVariables false
set_option linter.unusedSimpArgs false
set_option maxRecDepth 100000
abbrev mkW (l : List UInt8) : ByteArray := ByteArray.mk (List.toArray l)
def qL : List UInt8 → Option Nat
 | [] => none
 | [c] => if c = 34 then some 1 else none
 | c :: d :: t => if c = 34 then some 1 else if c = 92 then (qL t).map (· + 2) else (qL (d :: t)).map (· + 1)
theorem qL_le : ∀ (l : List UInt8) (n : Nat), qL l = some n → 1 ≤ n ∧ n ≤ l.length
 | [], n, h => by simp [qL] at h
 | [c], n, h => by
  simp only [qL] at h
  split at h
  ·simp at h; subst h; simp
  ·simp at h
 | c :: d :: t, n, h => by
  simp only [qL] at h
  split at h
  ·simp at h; subst h; simp
  ·split at h
   ·obtain ⟨m, hm, rfl⟩ := Option.map_eq_some_iff.1 h
    have := qL_le t m hm; simp; omega
   ·obtain ⟨m, hm, rfl⟩ := Option.map_eq_some_iff.1 h
    have := qL_le (d :: t) m hm; simp at this ⊢; omega
def qI (p : Nat) (o : Option Nat) : Int := match o with | none => -1 | some n => ((p + n : Nat) : Int)
theorem byte_is (c : UInt8) (n : Nat) (hn : n < 256) : ((c.toNat : Int) == (n : Int)) = decide (c = UInt8.ofNat n) := by
 rw [Bool.eq_iff_iff, beq_iff_eq, decide_eq_true_eq]
 constructor
 ·intro h
  apply UInt8.toNat_inj.1
  rw [UInt8.toNat_ofNat']; omega
 ·rintro rfl
  rw [UInt8.toNat_ofNat']; omega
theorem b34 (c : UInt8) : ((c.toNat : Int) == 34) = decide (c = 34) := byte_is c 34 (by omega)
theorem b92 (c : UInt8) : ((c.toNat : Int) == 92) = decide (c = 92) := byte_is c 92 (by omega)
theorem b32 (c : UInt8) : ((c.toNat : Int) == 32) = decide (c = 32) := byte_is c 32 (by omega)
theorem quoted_s0 (l : List UInt8) (hl : l.length ≤ 1000000000) : ∀ (m p : Nat), l.length - p ≤ m → p ≤ l.length + 1 → ∀ k, m < k → words_quoted.s0 k (mkW l) (p : Int) = some (qI p (qL (l.drop p))) := by
 intro m
 induction m using Nat.strongRecOn with
 | _ m ih =>
  intro p hm hp k hk
  obtain ⟨k, rfl⟩ : ∃ j, k = j + 1 := ⟨k - 1, by omega⟩
  by_cases h : p < l.length
  ·have e : ¬ (p : Int) ≥ (l.length : Int) := by omega
   have e0 : (0 : Int) ≤ (p : Int) := by omega
   have e1 : (p : Int) < (l.length : Int) := by omega
   have w1 : IntKind.wrap IntKind.i64 ((p : Int) + 1) = ((p + 1 : Nat) : Int) := by rw [i64w (by omega) (by omega)]; omega
   have w2 : IntKind.wrap IntKind.i64 (((p + 1 : Nat) : Int) + 1) = ((p + 2 : Nat) : Int) := by rw [i64w (by omega) (by omega)]; omega
   have i1 := ih (l.length - (p + 1)) (by omega) (p + 1) (Nat.le_refl _) (by omega) k (by omega)
   have i2 := ih (l.length - (p + 2)) (by omega) (p + 2) (Nat.le_refl _) (by omega) k (by omega)
   have hd : l.drop p = l[p] :: l.drop (p + 1) := List.drop_eq_getElem_cons h
   simp only [words_quoted.s0, words_quoted.s0c, ba_size, e, e0, e1, ba_bt l p h, b34, b92, w1, w2, i1, i2, decide_true, decide_false, Bool.and_self, cond_true, cond_false, Option.bind_fun_some, hd]
   generalize l[p] = c
   cases ht : l.drop (p + 1) with
   | nil =>
    have hn : l.drop (p + 2) = [] := by
     have := congrArg List.length ht; simp at this
     exact List.drop_eq_nil_of_le (by omega)
    simp only [qL, hn]
    by_cases c1 : c = 34
    ·subst c1; rfl
    ·simp only [c1, decide_false, cond_false, if_false]
     by_cases c2 : c = 92
     ·simp only [c2, decide_true, cond_true]; rfl
     ·simp only [c2, decide_false, cond_false]; rfl
   | cons d t =>
    have hn : l.drop (p + 2) = t := by
     have : (l.drop (p + 1)).drop 1 = t := by rw [ht]; rfl
     rwa [List.drop_drop] at this
    simp only [qL, hn]
    by_cases c1 : c = 34
    ·subst c1; rfl
    ·simp only [c1, decide_false, cond_false, if_false]
     by_cases c2 : c = 92
     ·simp only [c2, decide_true, cond_true, if_true]
      cases qL t with
      | none => rfl
      | some n => simp only [Option.map_some, qI]; congr 1; omega
     ·simp only [c2, decide_false, cond_false, if_false]
      cases qL (d :: t) with
      | none => rfl
      | some n => simp only [Option.map_some, qI]; congr 1; omega
  ·have e : (p : Int) ≥ (l.length : Int) := by omega
   rw [List.drop_eq_nil_of_le (by omega)]
   simp only [words_quoted.s0, words_quoted.s0c, ba_size, e, decide_true, cond_true]; rfl
theorem quoted_eq (l : List UInt8) (hl : l.length ≤ 1000000000) (p : Nat) (hp : p < l.length) (k : Nat) (hk : l.length < k) : words_quoted.f k (mkW l) (p : Int) = some (qI (p + 1) (qL (l.drop (p + 1)))) := by
 have h := quoted_s0 l hl (l.length - (p + 1)) (p + 1) (Nat.le_refl _) (by omega) (k + 1) (by omega)
 have w1 : IntKind.wrap IntKind.i64 ((p : Int) + 1) = ((p + 1 : Nat) : Int) := by rw [i64w (by omega) (by omega)]; omega
 simp only [words_quoted.f, words_quoted.c, w1]
 exact h
def refS : List UInt8 → List UInt8 → Bool → Bool → List (List UInt8) → List (List UInt8) × Int
 | [], cur, q, _, ws => if q = true then ([], 7) else if cur = [] then (ws, 0) else (ws ++ [cur], 0)
 | c :: t, cur, q, e, ws =>
  if c = 32 ∧ q = false then refS t [] q e (if cur = [] then ws else ws ++ [cur])
  else if q = false then refS t (cur ++ [c]) (decide (c = 34)) false ws
  else if e = true then refS t (cur ++ [c]) q false ws
  else if c = 92 then refS t (cur ++ [c]) q true ws
  else if c = 34 then refS t (cur ++ [c]) false e ws
  else refS t (cur ++ [c]) q e ws
theorem refS_quote : ∀ (l cur : List UInt8) (ws : List (List UInt8)), refS l cur true false ws = match qL l with | none => ([], 7) | some n => refS (l.drop n) (cur ++ l.take n) false false ws
 | [], cur, ws => by simp [refS, qL]
 | [c], cur, ws => by
  simp only [refS, qL]
  by_cases c1 : c = 34
  ·subst c1; simp [refS]
  ·by_cases c2 : c = 92
   ·simp [c2, refS]
   ·simp [c1, c2, refS]
 | c :: d :: t, cur, ws => by
  have i1 := refS_quote (d :: t) (cur ++ [c]) ws
  have i2 := refS_quote t (cur ++ [c] ++ [d]) ws
  by_cases c1 : c = 34
  ·subst c1; rw [refS]; simp [qL]
  ·by_cases c2 : c = 92
   ·subst c2
    have a1 : refS (92 :: d :: t) cur true false ws = refS (d :: t) (cur ++ [92]) true true ws := by rw [refS]; simp
    have a2 : refS (d :: t) (cur ++ [92]) true true ws = refS t (cur ++ [92] ++ [d]) true false ws := by rw [refS]; simp
    rw [a1, a2, i2]
    simp only [qL, show ¬ ((92 : UInt8) = 34) by decide, if_false, if_true]
    cases qL t with
    | none => rfl
    | some n => simp [List.append_assoc]
   ·have e1 : refS (c :: d :: t) cur true false ws = refS (d :: t) (cur ++ [c]) true false ws := by
     rw [refS]; simp [c1, c2]
    rw [e1, i1]
    simp only [qL, c1, c2, if_false]
    cases qL (d :: t) with
    | none => rfl
    | some n => simp [List.append_assoc]
def encS (q : List (List UInt8) × Int) : List ByteArray × Int := (q.1.map mkW, q.2)
theorem take_step (l : List UInt8) (st i : Nat) (h1 : st ≤ i) (h2 : i < l.length) : (l.drop st).take (i + 1 - st) = (l.drop st).take (i - st) ++ [l[i]] := by
 rw [show i + 1 - st = (i - st) + 1 by omega, List.take_succ_eq_append_getElem (by simp; omega)]
 congr 2
 simp only [List.getElem_drop]
 congr 1; omega
theorem take_more (l : List UInt8) (st i n : Nat) (h1 : st ≤ i) : (l.drop st).take (i + n - st) = (l.drop st).take (i - st) ++ (l.drop i).take n := by
 rw [show i + n - st = (i - st) + n by omega, List.take_add, List.drop_drop, show st + (i - st) = i by omega]
def curW (l : List UInt8) (st : Option Nat) (i : Nat) : List UInt8 := match st with | none => [] | some s => (l.drop s).take (i - s)
def stI (st : Option Nat) : Int := match st with | none => -1 | some s => (s : Int)
theorem split_s3 (l : List UInt8) (hl : l.length ≤ 1000000) : ∀ (m i : Nat) (st : Option Nat) (ws : List (List UInt8)), l.length - i ≤ m → i ≤ l.length → (∀ s, st = some s → s < i) → ws.length ≤ i →
  ∀ k, 3 * m + l.length + 10 < k → words_Split.s3 k (mkW l) (stI st) (i : Int) (ws.map mkW) = some (encS (refS (l.drop i) (curW l st i) false false ws)) := by
 intro m
 induction m using Nat.strongRecOn with
 | _ m ih =>
  intro i st ws hm hi hst hw k hk
  obtain ⟨k, rfl⟩ : ∃ j, k = j + 2 := ⟨k - 2, by omega⟩
  by_cases h : i < l.length
  ·have e0 : (0 : Int) ≤ (i : Int) := by omega
   have e1 : (i : Int) < (l.length : Int) := by omega
   have e1' : (i : Int) ≤ (l.length : Int) := by omega
   have w1 : IntKind.wrap IntKind.i64 ((i : Int) + 1) = ((i + 1 : Nat) : Int) := by rw [i64w (by omega) (by omega)]; omega
   have hd : l.drop i = l[i] :: l.drop (i + 1) := List.drop_eq_getElem_cons h
   by_cases c32 : l[i] = 32
   ·cases st with
    | none =>
     have i1 := ih (l.length - (i + 1)) (by omega) (i + 1) none ws (Nat.le_refl _) (by omega) (by simp) (by omega) k (by omega)
     have n0 : ¬ (-1 : Int) ≥ 0 := by omega
     have i1 : words_Split.s3 k (mkW l) (-1) ((i + 1 : Nat) : Int) (ws.map mkW) = _ := i1
     have e5 : stI none = -1 := rfl
     simp only [words_Split.s3, words_Split.s3c, words_Split.s4, words_Split.s4c, ba_size, e0, e1, ba_bt l i h, b32, c32, e5, n0, w1, decide_true, decide_false, Bool.and_self, cond_true, cond_false, Option.bind_fun_some, hd]
     refine i1.trans ?_
     simp [refS, curW]
    | some s =>
     have hs := hst s rfl
     have i1 := ih (l.length - (i + 1)) (by omega) (i + 1) none (ws ++ [(l.drop s).take (i - s)]) (Nat.le_refl _) (by omega) (by simp) (by simp; omega) k (by omega)
     have i1 : words_Split.s3 k (mkW l) (-1) ((i + 1 : Nat) : Int) _ = _ := i1
     have n0 : (s : Int) ≥ 0 := by omega
     have n1 : (0 : Int) ≤ (s : Int) := by omega
     have n2 : (s : Int) ≤ (i : Int) := by omega
     have n3 : ((ws.map mkW).length + 1) * 16 ≤ 35184372088832 := by simp; omega
     have e5 : stI (some s) = (s : Int) := rfl
     simp only [words_Split.s3, words_Split.s3c, words_Split.s4, words_Split.s4c, ba_size, e0, e1, e1', ba_bt l i h, b32, c32, e5, n0, n1, n2, n3, w1, decide_true, decide_false, Bool.and_self, cond_true, cond_false, Option.bind_fun_some, hd, Int.toNat_natCast, ba_extract]
     rw [List.map_append] at i1
     refine i1.trans ?_
     have hne : ¬ (l.drop s).take (i - s) = [] := by
      intro q; have := congrArg List.length q; simp at this; omega
     simp [refS, curW, hne]
   · -- a word's byte
    have key : ∀ s : Nat, s ≤ i → curW l st i = (l.drop s).take (i - s) → words_Split.s5 (k + 1) (mkW l) (s : Int) (i : Int) (ws.map mkW) = some (encS (refS (l.drop i) (curW l st i) false false ws)) := by
     intro s hs hc
     rw [hc, hd]
     have er : refS (l[i] :: l.drop (i + 1)) ((l.drop s).take (i - s)) false false ws = refS (l.drop (i + 1)) ((l.drop s).take (i + 1 - s)) (decide (l[i] = 34)) false ws := by
      rw [take_step l s i hs h, refS]; simp [c32]
     rw [er]
     by_cases c34 : l[i] = 34
     ·have hq := quoted_eq l (by omega) i h k (by omega)
      have nb : ((l[i].toNat : Int) != 34) = false := by
       have := b34 l[i]; rw [c34] at this ⊢; rfl
      simp only [words_Split.s5, words_Split.s5c, ba_size, e0, e1, ba_bt l i h, nb, hq, decide_true, Bool.and_self, cond_true, cond_false, Option.bind_fun_some, Option.bind_some, c34, refS_quote]
      cases hql : qL (l.drop (i + 1)) with
      | none => rfl
      | some n =>
       obtain ⟨n1, n2⟩ := qL_le _ _ hql
       simp only [List.length_drop] at n2
       have hneg : ¬ ((i + 1 + n : Nat) : Int) < 0 := by omega
       have i1 := ih (l.length - (i + 1 + n)) (by omega) (i + 1 + n) (some s) ws (Nat.le_refl _) (by omega) (by intro q hq; simp at hq; omega) (by omega) k (by omega)
       simp only [qI, hneg, decide_false, cond_false]
       refine (show words_Split.s3 k (mkW l) (s : Int) ((i + 1 + n : Nat) : Int) (ws.map mkW) = _ from i1).trans ?_
       simp only [curW, List.drop_drop]
       rw [take_more l s (i + 1) n (by omega)]
     ·have nb : ((l[i].toNat : Int) != 34) = true := by
       have := b34 l[i]; rw [bne, this, decide_eq_false c34]; rfl
      have i1 := ih (l.length - (i + 1)) (by omega) (i + 1) (some s) ws (Nat.le_refl _) (by omega) (by intro q hq; simp at hq; omega) (by omega) k (by omega)
      simp only [words_Split.s5, words_Split.s5c, ba_size, e0, e1, ba_bt l i h, nb, w1, decide_true, Bool.and_self, cond_true, cond_false, Option.bind_fun_some, c34, decide_false]
      exact i1
    cases st with
    | none =>
     have n0 : (-1 : Int) < 0 := by omega
     have e5 : stI none = -1 := rfl
     have := key i (Nat.le_refl _) (by simp [curW])
     simp only [words_Split.s3, words_Split.s3c, ba_size, e0, e1, ba_bt l i h, b32, c32, e5, n0, decide_true, decide_false, Bool.and_self, cond_true, cond_false, Option.bind_fun_some]
     exact this
    | some s =>
     have hs := hst s rfl
     have n0 : ¬ (s : Int) < 0 := by omega
     have e5 : stI (some s) = (s : Int) := rfl
     have := key s (by omega) rfl
     simp only [words_Split.s3, words_Split.s3c, ba_size, e0, e1, ba_bt l i h, b32, c32, e5, n0, decide_true, decide_false, Bool.and_self, cond_true, cond_false, Option.bind_fun_some]
     exact this
  ·have hil : i = l.length := by omega
   subst hil
   have e1 : ¬ (l.length : Int) < (l.length : Int) := by omega
   rw [List.drop_length]
   cases st with
   | none =>
    have n0 : ¬ (-1 : Int) ≥ 0 := by omega
    have e5 : stI none = -1 := rfl
    simp only [words_Split.s3, words_Split.s3c, ba_size, e1, e5, n0, decide_false, cond_false]
    simp [refS, curW, encS]
   | some s =>
    have hs := hst s rfl
    have n0 : (s : Int) ≥ 0 := by omega
    have n1 : (0 : Int) ≤ (s : Int) := by omega
    have n2 : (s : Int) ≤ (l.length : Int) := by omega
    have n4 : (l.length : Int) ≤ (l.length : Int) := by omega
    have n3 : ((ws.map mkW).length + 1) * 16 ≤ 35184372088832 := by simp; omega
    have e5 : stI (some s) = (s : Int) := rfl
    have hne : ¬ (l.drop s).take (l.length - s) = [] := by
     intro q; have := congrArg List.length q; simp at this; omega
    simp only [words_Split.s3, words_Split.s3c, ba_size, e1, e5, n0, n1, n2, n3, n4, decide_false, decide_true, Bool.and_self, cond_true, cond_false, Int.toNat_natCast, ba_extract]
    simp only [refS, curW, hne, encS, Bool.false_eq_true, if_false, List.map_append, List.map_cons, List.map_nil]
def seen (l : List UInt8) : Bool := l.all fun c => decide (32 ≤ c.toNat ∧ c.toNat ≤ 126)
def splitL (l : List UInt8) : List (List UInt8) × Int := if seen l = true then refS l [] false false [] else ([], 7)
theorem elem_u8 (l : List UInt8) (i : Nat) (h : i < l.length) : elem (Ty.int IntKind.u8) (l.map fun b => ((UInt8.toNat b : Nat) : Int)) (i : Int) = (l[i].toNat : Int) := by
 simp [elem, List.getD, List.getElem?_eq_getElem h]
theorem split_s0 (l : List UInt8) (hl : l.length ≤ 1000000) : ∀ (m i : Nat), i + m = l.length → ∀ k, 3 * m + 4 * l.length + 20 < k →
  words_Split.s0 k (mkW l) (l.map fun b => ((UInt8.toNat b : Nat) : Int)) (l.length : Int) (i : Int) = some (encS (if seen (l.drop i) = true then refS l [] false false [] else ([], 7))) := by
 intro m
 induction m with
 | zero =>
  intro i hi k hk
  obtain ⟨k, rfl⟩ : ∃ j, k = j + 1 := ⟨k - 1, by omega⟩
  have e1 : ¬ (i : Int) < (l.length : Int) := by omega
  have := split_s3 l hl l.length 0 none [] (by omega) (by omega) (by simp) (by simp) k (by omega)
  rw [List.drop_eq_nil_of_le (by omega)]
  simp only [words_Split.s0, words_Split.s0c, e1, decide_false, cond_false, Option.bind_fun_some]
  exact this
 | succ m ih =>
  intro i hi k hk
  obtain ⟨k, rfl⟩ : ∃ j, k = j + 3 := ⟨k - 3, by omega⟩
  have h : i < l.length := by omega
  have e0 : (0 : Int) ≤ (i : Int) := by omega
  have e1 : (i : Int) < (l.length : Int) := by omega
  have e2 : (i : Int) < ((l.map fun b => ((UInt8.toNat b : Nat) : Int)).length : Int) := by simp; omega
  have w1 : IntKind.wrap IntKind.i64 ((i : Int) + 1) = ((i + 1 : Nat) : Int) := by rw [i64w (by omega) (by omega)]; omega
  have hd : l.drop i = l[i] :: l.drop (i + 1) := List.drop_eq_getElem_cons h
  have i1 := ih (i + 1) (by omega) k (by omega)
  simp only [words_Split.s0, words_Split.s0c, words_Split.s1, words_Split.s1c, words_Split.s2, words_Split.s2c, e0, e1, e2, elem_u8 l i h, w1, i1, decide_true, Bool.and_self, cond_true, Option.bind_fun_some, hd, seen, List.all_cons]
  by_cases c1 : l[i].toNat < 32
  ·have : (l[i].toNat : Int) < 32 := by omega
   rw [decide_eq_true this]
   simp only [cond_true, show ¬ (32 ≤ l[i].toNat ∧ l[i].toNat ≤ 126) by omega, decide_false, Bool.false_and, Bool.false_eq_true, if_false]; rfl
  ·have : ¬ (l[i].toNat : Int) < 32 := by omega
   rw [decide_eq_false this]
   by_cases c2 : 126 < l[i].toNat
   ·have : (l[i].toNat : Int) > 126 := by omega
    rw [decide_eq_true this]
    simp only [cond_true, cond_false, show ¬ (32 ≤ l[i].toNat ∧ l[i].toNat ≤ 126) by omega, decide_false, Bool.false_and, Bool.false_eq_true, if_false]; rfl
   ·have : ¬ (l[i].toNat : Int) > 126 := by omega
    rw [decide_eq_false this]
    simp only [cond_false, show (32 ≤ l[i].toNat ∧ l[i].toNat ≤ 126) by omega, and_self, decide_true, Bool.true_and]; rfl
theorem split_eq (l : List UInt8) (hl : l.length ≤ 1000000) (k : Nat) (hk : 7 * l.length + 30 < k) : words_Split.f k (mkW l) = some (encS (splitL l)) := by
 have := split_s0 l hl l.length 0 (by omega) k (by omega)
 simp only [words_Split.f, words_Split.c, Option.bind_fun_some, List.length_map]
 exact this
theorem elem_str (l : List ByteArray) (i : Nat) (h : i < l.length) : elem Ty.str l (i : Int) = l[i] := by
 simp [elem, List.getD, List.getElem?_eq_getElem h]
theorem refS_len : ∀ (l cur : List UInt8) (q e : Bool) (ws : List (List UInt8)), (refS l cur q e ws).1.length ≤ ws.length + l.length + 1
 | [], cur, q, e, ws => by
  rw [refS]; split
  ·simp
  ·split <;> simp
 | c :: t, cur, q, e, ws => by
  rw [refS]
  have ih := refS_len t
  rw [List.length_cons]
  split
  ·split
   ·have := ih [] q e ws; omega
   ·have := ih [] q e (ws ++ [cur]); simp at this; omega
  ·split
   ·have := ih (cur ++ [c]) (decide (c = 34)) false ws; omega
   ·split
    ·have := ih (cur ++ [c]) q false ws; omega
    ·split
     ·have := ih (cur ++ [c]) q true ws; omega
     ·split
      ·have := ih (cur ++ [c]) false e ws; omega
      ·have := ih (cur ++ [c]) q e ws; omega
end Go.Proofs.YtimadphjdkjgaaaDoor.Aev
