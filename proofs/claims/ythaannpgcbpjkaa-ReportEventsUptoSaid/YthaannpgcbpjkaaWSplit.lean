
/- A line in words: the program's and the document's ways. -/

import Derived.Test.YthaannpgcbpjkaaBa
namespace Go.Proofs.Ythaannpgcbpjkaa.Aev
open Go
set_option linter.unusedVariables false
set_option linter.unusedSimpArgs false
set_option maxRecDepth 100000
abbrev mkW (l : List UInt8) : ByteArray := ByteArray.mk (List.toArray l)
/-- how many bytes there are to a quote's end -/
def qL : List UInt8 → Option Nat
  | [] => none
  | [c] => if c = 34 then some 1 else none
  | c :: d :: t => if c = 34 then some 1 else if c = 92 then (qL t).map (· + 2) else (qL (d :: t)).map (· + 1)
theorem qL_le : ∀ (l : List UInt8) (n : Nat), qL l = some n → 1 ≤ n ∧ n ≤ l.length
  | [], n, h => by simp [qL] at h
  | [c], n, h => by
    simp only [qL] at h
    split at h
    · simp at h; subst h; simp
    · simp at h
  | c :: d :: t, n, h => by
    simp only [qL] at h
    split at h
    · simp at h; subst h; simp
    · split at h
      · obtain ⟨m, hm, rfl⟩ := Option.map_eq_some_iff.1 h
        have := qL_le t m hm; simp; omega
      · obtain ⟨m, hm, rfl⟩ := Option.map_eq_some_iff.1 h
        have := qL_le (d :: t) m hm; simp at this ⊢; omega
def qI (p : Nat) (o : Option Nat) : Int := match o with | none => -1 | some n => ((p + n : Nat) : Int)
theorem byte_is (c : UInt8) (n : Nat) (hn : n < 256) : ((c.toNat : Int) == (n : Int)) = decide (c = UInt8.ofNat n) := by
  rw [Bool.eq_iff_iff, beq_iff_eq, decide_eq_true_eq]
  constructor
  · intro h
    apply UInt8.toNat_inj.1
    rw [UInt8.toNat_ofNat']; omega
  · rintro rfl
    rw [UInt8.toNat_ofNat']; omega
theorem b34 (c : UInt8) : ((c.toNat : Int) == 34) = decide (c = 34) := byte_is c 34 (by omega)
theorem b92 (c : UInt8) : ((c.toNat : Int) == 92) = decide (c = 92) := byte_is c 92 (by omega)
theorem b32 (c : UInt8) : ((c.toNat : Int) == 32) = decide (c = 32) := byte_is c 32 (by omega)
/-- the document's way -/
def refS : List UInt8 → List UInt8 → Bool → Bool → List (List UInt8) → List (List UInt8) × Int
  | [], cur, q, _, ws => if q = true then ([], 7) else if cur = [] then (ws, 0) else (ws ++ [cur], 0)
  | c :: t, cur, q, e, ws =>
    if c = 32 ∧ q = false then refS t [] q e (if cur = [] then ws else ws ++ [cur])
    else if q = false then refS t (cur ++ [c]) (decide (c = 34)) false ws
    else if e = true then refS t (cur ++ [c]) q false ws
    else if c = 92 then refS t (cur ++ [c]) q true ws
    else if c = 34 then refS t (cur ++ [c]) false e ws
    else refS t (cur ++ [c]) q e ws
theorem refS_quote : ∀ (l cur : List UInt8) (ws : List (List UInt8)), refS l cur true false ws = match qL l with | none => ([], 7) | some n => refS (l.drop n) (cur ++ l.take n) false false ws
  | [], cur, ws => by simp [refS, qL]
  | [c], cur, ws => by
    simp only [refS, qL]
    by_cases c1 : c = 34
    · subst c1; simp [refS]
    · by_cases c2 : c = 92
      · simp [c2, refS]
      · simp [c1, c2, refS]
  | c :: d :: t, cur, ws => by
    have i1 := refS_quote (d :: t) (cur ++ [c]) ws
    have i2 := refS_quote t (cur ++ [c] ++ [d]) ws
    by_cases c1 : c = 34
    · subst c1; rw [refS]; simp [qL]
    · by_cases c2 : c = 92
      · subst c2
        have a1 : refS (92 :: d :: t) cur true false ws = refS (d :: t) (cur ++ [92]) true true ws := by rw [refS]; simp
        have a2 : refS (d :: t) (cur ++ [92]) true true ws = refS t (cur ++ [92] ++ [d]) true false ws := by rw [refS]; simp
        rw [a1, a2, i2]
        simp only [qL, show ¬ ((92 : UInt8) = 34) by decide, if_false, if_true]
        cases qL t with
        | none => rfl
        | some n => simp [List.append_assoc]
      · have e1 : refS (c :: d :: t) cur true false ws = refS (d :: t) (cur ++ [c]) true false ws := by
          rw [refS]; simp [c1, c2]
        rw [e1, i1]
        simp only [qL, c1, c2, if_false]
        cases qL (d :: t) with
        | none => rfl
        | some n => simp [List.append_assoc]
def encS (q : List (List UInt8) × Int) : List ByteArray × Int := (q.1.map mkW, q.2)
theorem take_step (l : List UInt8) (st i : Nat) (h1 : st ≤ i) (h2 : i < l.length) : (l.drop st).take (i + 1 - st) = (l.drop st).take (i - st) ++ [l[i]] := by
  rw [show i + 1 - st = (i - st) + 1 by omega, List.take_succ_eq_append_getElem (by simp; omega)]
  congr 2
  simp only [List.getElem_drop]
  congr 1; omega
theorem take_more (l : List UInt8) (st i n : Nat) (h1 : st ≤ i) : (l.drop st).take (i + n - st) = (l.drop st).take (i - st) ++ (l.drop i).take n := by
  rw [show i + n - st = (i - st) + n by omega, List.take_add, List.drop_drop, show st + (i - st) = i by omega]
/-- the word that is under way -/
def curW (l : List UInt8) (st : Option Nat) (i : Nat) : List UInt8 := match st with | none => [] | some s => (l.drop s).take (i - s)
def stI (st : Option Nat) : Int := match st with | none => -1 | some s => (s : Int)
/-- are all bytes to be seen? -/
def seen (l : List UInt8) : Bool := l.all fun c => decide (32 ≤ c.toNat ∧ c.toNat ≤ 126)
def splitL (l : List UInt8) : List (List UInt8) × Int := if seen l = true then refS l [] false false [] else ([], 7)
theorem elem_u8 (l : List UInt8) (i : Nat) (h : i < l.length) : elem (Ty.int IntKind.u8) (l.map fun b => ((UInt8.toNat b : Nat) : Int)) (i : Int) = (l[i].toNat : Int) := by
  simp [elem, List.getD, List.getElem?_eq_getElem h]
theorem elem_str (l : List ByteArray) (i : Nat) (h : i < l.length) : elem Ty.str l (i : Int) = l[i] := by
  simp [elem, List.getD, List.getElem?_eq_getElem h]
theorem refS_len : ∀ (l cur : List UInt8) (q e : Bool) (ws : List (List UInt8)), (refS l cur q e ws).1.length ≤ ws.length + l.length + 1
  | [], cur, q, e, ws => by
    rw [refS]; split
    · simp
    · split <;> simp
  | c :: t, cur, q, e, ws => by
    rw [refS]
    have ih := refS_len t
    rw [List.length_cons]
    split
    · split
      · have := ih [] q e ws; omega
      · have := ih [] q e (ws ++ [cur]); simp at this; omega
    · split
      · have := ih (cur ++ [c]) (decide (c = 34)) false ws; omega
      · split
        · have := ih (cur ++ [c]) q false ws; omega
        · split
          · have := ih (cur ++ [c]) q true ws; omega
          · split
            · have := ih (cur ++ [c]) false e ws; omega
            · have := ih (cur ++ [c]) q e ws; omega
end Go.Proofs.Ythaannpgcbpjkaa.Aev
