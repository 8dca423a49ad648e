import Derived.Test.YtimadphjdkjgaaaGreatDoorF3
import Derived.Test.YtimadphjdkjgaaaGreatDoorF10
import Derived.Test.YtimadphjdkjgaaaGreatDoorF11
import Derived.Test.YtimadphjdkjgaaaGreatDoorF12
import Derived.Test.YtimadphjdkjgaaaGreatDoorRd

/- Words read again: the document's reader of words, numbers, values; words of a step's line are what they were made of. -/
namespace Go.Proofs.YtimadphjdkjgaaaGreatDoor.Aev
open Go
set_option linter.unusedVariables false
set_option linter.unusedSimpArgs false
set_option maxRecDepth 100000
theorem hd_drop (l : List ByteArray) (i : Nat) (h : i < l.length) : hdW (l.drop i) = l[i] := by
 rw [List.drop_eq_getElem_cons h]; rfl
theorem at_f (l : List ByteArray) (i : Nat) (k : Nat) : r37_at.f k l (i : Int) = some (hdW (l.drop i)) := by
 simp only [r37_at.f, r37_at.c]
 by_cases h : i < l.length
 ·have e0 : (i : Int) < (l.length : Int) := by omega
  have e1 : (0 : Int) ≤ (i : Int) := by omega
  simp only [e0, e1, decide_true, Bool.and_self, cond_true, elem_str h, hd_drop l i h]
 ·have e0 : ¬ (i : Int) < (l.length : Int) := by omega
  rw [List.drop_eq_nil_of_le (by omega)]
  simp only [e0, decide_false, cond_false]; rfl
theorem at0_f (l : List ByteArray) (k : Nat) : r37_at.f k l 0 = some (hdW l) := at_f l 0 k
theorem at1_f (l : List ByteArray) (k : Nat) : r37_at.f k l 1 = some (hdW (l.drop 1)) := at_f l 1 k
theorem at2_f (l : List ByteArray) (k : Nat) : r37_at.f k l 2 = some (hdW (l.drop 2)) := at_f l 2 k
theorem at3_f (l : List ByteArray) (k : Nat) : r37_at.f k l 3 = some (hdW (l.drop 3)) := at_f l 3 k
theorem rnum_f (w : ByteArray) (h : w.size ≤ 100000) (k : Nat) (hk : 300 ≤ k) : r37_number.f k w = some (wn w, wne w == 0) := by
 simp only [r37_number.f, r37_number.c, rnumber_f w h k hk, os]
noncomputable def vbad (l : List ByteArray) : Bool := l.any fun w => we w != 0
theorem vals_s0 (l : List ByteArray) (hl : l.length ≤ 1000000) (hs : Sm l) : ∀ (m i : Nat) (acc : List V), i + m = l.length → acc.length ≤ i → ∀ k, m + 9000010 < k →
  r37_vals.s0 k l (i : Int) acc = some (bif vbad (l.drop i) then ([], false) else (acc ++ (l.drop i).map wv, true)) := by
 intro m
 induction m with
 | zero =>
  intro i acc hi ha k hk
  obtain ⟨k, rfl⟩ : ∃ q, k = q + 1 := ⟨k - 1, by omega⟩
  have e : ¬ (i : Int) < (l.length : Int) := by omega
  rw [List.drop_eq_nil_of_le (by omega)]
  simp only [r37_vals.s0, r37_vals.s0c, e, decide_false, cond_false, vbad, List.map_nil, List.append_nil, List.any_nil]
 | succ m ih =>
  intro i acc hi ha k hk
  obtain ⟨k, rfl⟩ : ∃ q, k = q + 1 := ⟨k - 1, by omega⟩
  have hlt : i < l.length := by omega
  have e0 : (i : Int) < (l.length : Int) := by omega
  have e1 : (0 : Int) ≤ (i : Int) := by omega
  have e2 : IntKind.wrap IntKind.i64 ((i : Int) + 1) = ((i + 1 : Nat) : Int) := by rw [i64w (by omega) (by omega)]; omega
  have e3 : (acc.length + 1) * 40 ≤ 35184372088832 := by omega
  have hv := rvalue_f l[i] (hs _ (List.getElem_mem _)) k (by omega)
  have r := ih (i + 1) (acc ++ [wv l[i]]) (by omega) (by simp; omega) k (by omega)
  have r : r37_vals.s0 k l ((i + 1 : Nat) : Int) (acc ++ [((wv l[i]).1, ((wv l[i]).2.1, ((wv l[i]).2.2.1, ((wv l[i]).2.2.2.1, ()))))]) = _ := r
  rw [List.drop_eq_getElem_cons hlt, List.map_cons]
  simp only [r37_vals.s0, r37_vals.s0c, e0, e1, e2, e3, elem_str hlt, hv, r, decide_true, Bool.and_self, cond_true, os, ofs]
  cases hc : (we l[i] != 0) with
  | true => simp only [vbad, List.any_cons, hc, Bool.true_or, cond_true]
  | false => simp only [vbad, List.any_cons, hc, Bool.false_or, cond_false, List.append_assoc, List.cons_append, List.nil_append]
theorem vals_f (l : List ByteArray) (hl : l.length ≤ 1000000) (hs : Sm l) (k : Nat) (hk : 11000000 ≤ k) : r37_vals.f k l = some (bif vbad l then ([], false) else (l.map wv, true)) := by
 have := vals_s0 l hl hs l.length 0 [] (by omega) (by simp) k (by omega)
 simp only [r37_vals.f, r37_vals.c, ofs]
 exact this
theorem index_f (l : List ByteArray) (s : ByteArray) (hl : l.length ≤ 1000000) (k : Nat) (hk : 1000010 ≤ k) : sIx.f k l s = some (place (findS s l) 0) := by
 have := index_s0 l s hl l.length 0 (by omega) k (by omega)
 simp only [sIx.f, sIx.c, ofs]
 exact this
theorem rfind_f (l : List ByteArray) (s : ByteArray) (hl : l.length ≤ 1000000) (k : Nat) (hk : 1000010 ≤ k) : r08_Find.f k l s = some (place (findS s l) 0) := by
 have := rfind_s0 l s hl l.length 0 (by omega) k (by omega)
 simp only [r08_Find.f, r08_Find.c, ofs]
 exact this
theorem find_app {s : ByteArray} : ∀ (a b : List ByteArray), (∀ w ∈ a, ¬ w = s) → ∀ i, place (findS s (a ++ s :: b)) i = ((i + a.length : Nat) : Int)
 | [], b, _, i => by rw [List.nil_append, findS_cons, if_pos rfl]; rfl
 | x :: a, b, h, i => by
  rw [List.cons_append, findS_cons, if_neg (h x (by simp)), find_app a b (fun w hw => h w (List.mem_cons_of_mem _ hw)) (i + 1), List.length_cons]
  omega
theorem find_ok (s : ByteArray) (l : List ByteArray) : place (findS s l) 0 = -1 ∨ ∃ n : Nat, place (findS s l) 0 = (n : Int) ∧ n < l.length := by
 unfold findS
 cases h : l.findIdx? fun x => decide (x = s) with
 | none => exact .inl rfl
 | some j =>
  refine .inr ⟨j, by simp [place], ?_⟩
  obtain ⟨hj, _⟩ := List.findIdx?_eq_some_iff_getElem.1 h
  exact hj
/-! ### words of values -/
theorem vsL_cons {v : V} {l : List V} : (vsL (v :: l)).1 = 0 ↔ (shw v).2 = 0 ∧ (vsL l).1 = 0 := sq_0
theorem vsL_words : ∀ l : List V, (vsL l).2 = l.map fun v => mkW (shw v).1
 | [] => rfl
 | v :: l => by
  show (vP v).2 ++ (vsL l).2 = _
  rw [vsL_words l]; rfl
theorem vs_back : ∀ l : List V, (∀ v ∈ l, OkV v) → (vsL l).1 = 0 → (vsL l).2.map wv = l ∧ vbad (vsL l).2 = false ∧ ∀ b, vB (vsL l).2 b = b
 | [], _, _ => ⟨rfl, rfl, fun b => by show (b || false) = b; cases b <;> rfl⟩
 | v :: l, hv, h => by
  obtain ⟨h1, h2⟩ := vsL_cons.1 h
  obtain ⟨e1, e2⟩ := wv_show (hv v (by simp)) h1
  obtain ⟨r1, r2, r3⟩ := vs_back l (fun x hx => hv x (List.mem_cons_of_mem _ hx)) h2
  have e : (vsL (v :: l)).2 = mkW (shw v).1 :: (vsL l).2 := rfl
  have e3 : (we (mkW (shw v).1) != 0) = false := by rw [e2]; rfl
  rw [e]
  refine ⟨by rw [List.map_cons, e1, r1], ?_, fun b => ?_⟩
  ·unfold vbad at r2 ⊢
   rw [List.any_cons, e3, r2]; rfl
  ·rw [vB_cons, e3, Bool.or_false, r3]
theorem vsP_0 {l : List V} (h : (vsP l).1 = 0) : vsP l = vsL l := by
 unfold vsP at h ⊢
 split at h
 ·cases h
 ·rename_i c; rw [if_neg c]
theorem vsP_le {l : List V} (h : (vsP l).1 = 0) : l.length ≤ 8 := by
 unfold vsP at h
 split at h
 ·cases h
 ·omega
theorem shw_to {v : V} (hv : OkV v) (h : (shw v).2 = 0) : ¬ mkW (shw v).1 = wTo := by
 intro e
 have e : (shw v).1 = [116, 111] := mkW_inj.1 e
 rw [shw_T h] at e
 obtain ⟨_, _, b0, b1⟩ := hv
 unfold showT at e
 split at e
 ·split at e <;> simp at e
 ·split at e
  ·obtain ⟨c, t, q, hc⟩ := digL_head v.2.1
   rw [q] at e
   have : c = 116 := by simp at e; exact e.1
   subst this
   rcases hc with hc | ⟨_, hc⟩
   ·exact absurd hc (by decide)
   ·exact absurd hc (by decide)
  ·split at e
   ·simp at e
   ·split at e
    ·simp at e
    ·split at e
     ·simp [quoteL] at e
     ·simp at e
/-! ### words of columns -/
theorem null_w (b : Bool) : decide (nullW b = wNull) = b := by
 cases b with
 | true => exact decide_eq_true rfl
 | false =>
  refine decide_eq_false fun e => ?_
  have := mkW_inj.1 (show mkW [115, 101, 116] = mkW [110, 117, 108, 108] from e)
  exact absurd this (by decide)
theorem colP_0 {c : C} : (colP c).1 = 0 ↔ (nmP [c.1]).1 = 0 ∧ (kdP c.2.1).1 = 0 ∧ (shw c.2.2.2.1).2 = 0 := by
 unfold colP
 rw [sq_0, sq_0, sq_0]
 exact ⟨fun ⟨a, b, _, d⟩ => ⟨a, b, d⟩, fun ⟨a, b, d⟩ => ⟨a, b, rfl, d⟩⟩
theorem colP_w (c : C) : (colP c).2 = [c.1, mkW (nameV c.2.1), nullW c.2.2.1, mkW (shw c.2.2.2.1).1] := rfl
theorem col_back {c : C} (hv : OkV c.2.2.2.1) (h : (colP c).1 = 0) (r : List ByteArray) : colOf ((colP c).2 ++ r) = c ∧ (∀ b, colB ((colP c).2 ++ r) b = b) ∧ we (hdW ((colP c).2 ++ r).tail.tail.tail) = 0 ∧ ((colP c).2 ++ r).tail.tail.tail.tail = r := by
 obtain ⟨h1, h2, h3⟩ := colP_0.1 h
 obtain ⟨e1, e2⟩ := wv_show hv h3
 have e3 : (we (mkW (shw c.2.2.2.1).1) != 0) = false := by rw [e2]; rfl
 rw [colP_w]
 refine ⟨?_, fun b => ?_, e2, rfl⟩
 ·show (c.1, kdOf (mkW (nameV c.2.1)), decide (nullW c.2.2.1 = wNull), wv (mkW (shw c.2.2.2.1).1), ()) = c
  rw [kd_name _ h2, null_w, e1]
 ·show ((b || false || false || false || false) || (we (mkW (shw c.2.2.2.1).1) != 0)) = b
  rw [e3]; cases b <;> rfl
theorem colsL_cons {c : C} {l : List C} : (colsL (c :: l)).1 = 0 ↔ (colP c).1 = 0 ∧ (colsL l).1 = 0 := sq_0
theorem colsL_w (c : C) (l : List C) : (colsL (c :: l)).2 = (colP c).2 ++ (colsL l).2 := rfl
theorem colsL_len : ∀ l : List C, (colsL l).2.length = 4 * l.length
 | [] => rfl
 | c :: l => by rw [colsL_w, List.length_append, colP_len, colsL_len l, List.length_cons]; omega
theorem colOf_ok (l : List ByteArray) : OkV (colOf l).2.2.2.1 := wv_ok _
/-! ### the document's columns -/
theorem colOf_at (l : List ByteArray) (i : Nat) (h : i + 3 < l.length) : colOf (l.drop i) = (l[i], kdOf l[i + 1], decide (l[i + 2] = wNull), wv l[i + 3], ()) := by
 have d : l.drop i = l[i] :: l[i + 1] :: l[i + 2] :: l[i + 3] :: l.drop (i + 4) := by
  rw [List.drop_eq_getElem_cons (by omega), List.drop_eq_getElem_cons (show i + 1 < l.length by omega), List.drop_eq_getElem_cons (show i + 1 + 1 < l.length by omega), List.drop_eq_getElem_cons (show i + 1 + 1 + 1 < l.length by omega)]
 rw [d]; rfl
theorem rcols_any (l : List ByteArray) (hl : l.length ≤ 1000000) (hs : Sm l) : ∀ (m i : Nat) (acc : List C), l.length - i ≤ m → acc.length ≤ i → (∀ c ∈ acc, OkV c.2.2.2.1) → ∀ k, m + 9000010 < k →
  ∃ r, r37_cols.s0 k l (i : Int) acc = some r ∧ ∀ c ∈ r.1, OkV c.2.2.2.1 := by
 intro m
 induction m using Nat.strongRecOn with
 | _ m ih =>
  intro i acc hi ha hc k hk
  obtain ⟨k, rfl⟩ : ∃ q, k = q + 1 := ⟨k - 1, by omega⟩
  by_cases hlt : i < l.length
  ·have e0 : (i : Int) < (l.length : Int) := by omega
   have w4 : IntKind.wrap IntKind.i64 ((i : Int) + 4) = ((i + 4 : Nat) : Int) := by rw [i64w (by omega) (by omega)]; omega
   by_cases h4 : i + 4 > l.length
   ·have e4 : ((i + 4 : Nat) : Int) > (l.length : Int) := by omega
    simp only [r37_cols.s0, r37_cols.s0c, e0, w4, e4, decide_true, cond_true]
    exact ⟨_, rfl, by simp⟩
   ·have e4 : ¬ ((i + 4 : Nat) : Int) > (l.length : Int) := by omega
    have w3 : IntKind.wrap IntKind.i64 ((i : Int) + 3) = ((i + 3 : Nat) : Int) := by rw [i64w (by omega) (by omega)]; omega
    have w2 : IntKind.wrap IntKind.i64 ((i : Int) + 2) = ((i + 2 : Nat) : Int) := by rw [i64w (by omega) (by omega)]; omega
    have w1 : IntKind.wrap IntKind.i64 ((i : Int) + 1) = ((i + 1 : Nat) : Int) := by rw [i64w (by omega) (by omega)]; omega
    have z : ∀ n : Nat, (0 : Int) ≤ (n : Int) := fun n => Int.natCast_nonneg n
    have l1 : ((i + 1 : Nat) : Int) < (l.length : Int) := by omega
    have l2 : ((i + 2 : Nat) : Int) < (l.length : Int) := by omega
    have l3 : ((i + 3 : Nat) : Int) < (l.length : Int) := by omega
    have e3 : (acc.length + 1) * 72 ≤ 35184372088832 := by omega
    have hv := rvalue_f (l[i + 3]'(by omega)) (hs _ (List.getElem_mem _)) k (by omega)
    have hk1 := rkind_f (l[i + 1]'(by omega)) k (by omega)
    obtain ⟨r, h1, h2⟩ := ih (l.length - (i + 4)) (by omega) (i + 4) (acc ++ [colOf (l.drop i)]) (Nat.le_refl _) (by simp; omega) (fun c h => by
     rcases List.mem_append.1 h with h | h
     ·exact hc c h
     ·rw [List.mem_singleton.1 h]; exact colOf_ok _) k (by omega)
    rw [colOf_at l i (by omega)] at h1
    simp only [r37_cols.s0, r37_cols.s0c, e0, w4, w3, w2, w1, e4, z, l1, l2, l3, e3, elem_str hlt, elem_str (show i + 1 < l.length by omega), elem_str (show i + 2 < l.length by omega), elem_str (show i + 3 < l.length by omega), hv, hk1, tl_eq, decide_true, decide_false, Bool.and_self, cond_true, cond_false, os, ofs]
    cases we (l[i + 3]'(by omega)) != 0 with
    | true => exact ⟨_, rfl, by simp⟩
    | false => exact ⟨r, h1, h2⟩
  ·have e0 : ¬ (i : Int) < (l.length : Int) := by omega
   simp only [r37_cols.s0, r37_cols.s0c, e0, decide_false, cond_false]
   exact ⟨_, rfl, hc⟩
theorem rcols_any_f (l : List ByteArray) (hl : l.length ≤ 1000000) (hs : Sm l) (k : Nat) (hk : 11000000 ≤ k) : ∃ r, r37_cols.f k l = some r ∧ ∀ c ∈ r.1, OkV c.2.2.2.1 := by
 obtain ⟨r, h1, h2⟩ := rcols_any l hl hs l.length 0 [] (by omega) (by simp) (by simp) k (by omega)
 have h1 : r37_cols.s0 k l 0 [] = some r := h1
 simp only [r37_cols.f, r37_cols.c, h1, ofs]
 exact ⟨r, rfl, h2⟩
theorem rcols_back (l : List ByteArray) (hl : l.length ≤ 1000000) (hs : Sm l) : ∀ (cs : List C) (i : Nat) (acc : List C), l.drop i = (colsL cs).2 → (∀ c ∈ cs, OkV c.2.2.2.1) → (colsL cs).1 = 0 → acc.length ≤ i → i ≤ l.length → ∀ k, cs.length + 9000010 < k →
  r37_cols.s0 k l (i : Int) acc = some (acc ++ cs, true) := by
 intro cs
 induction cs with
 | nil =>
  intro i acc hd hv h0 ha hi k hk
  obtain ⟨k, rfl⟩ : ∃ q, k = q + 1 := ⟨k - 1, by omega⟩
  have hn : l.drop i = [] := hd
  have : l.length ≤ i := by simpa using hn
  have e0 : ¬ (i : Int) < (l.length : Int) := by omega
  simp only [r37_cols.s0, r37_cols.s0c, e0, decide_false, cond_false, List.append_nil]
 | cons c cs ih =>
  intro i acc hd hv h0 ha hi k hk
  obtain ⟨k, rfl⟩ : ∃ q, k = q + 1 := ⟨k - 1, by omega⟩
  obtain ⟨h1, h2⟩ := colsL_cons.1 h0
  rw [colsL_w] at hd
  have hlen : l.length = i + 4 + (colsL cs).2.length := by
   have := congrArg List.length hd
   rw [List.length_drop, List.length_append, colP_len] at this
   omega
  obtain ⟨b1, b2, b3, b4⟩ := col_back (hv c (by simp)) h1 (colsL cs).2
  rw [← hd] at b1 b3 b4
  have hd4 : l.drop (i + 4) = (colsL cs).2 := by
   rw [← b4]
   simp only [← List.drop_one, List.drop_drop]
  have c0 := colOf_at l i (by omega)
  have hw : we (l[i + 3]'(by omega)) = 0 := by
   rw [← b3]
   congr 1
   simp only [← List.drop_one, List.drop_drop]
   exact (hd_drop l (i + 3) (by omega)).symm
  have e0 : (i : Int) < (l.length : Int) := by omega
  have w4 : IntKind.wrap IntKind.i64 ((i : Int) + 4) = ((i + 4 : Nat) : Int) := by rw [i64w (by omega) (by omega)]; omega
  have e4 : ¬ ((i + 4 : Nat) : Int) > (l.length : Int) := by omega
  have w3 : IntKind.wrap IntKind.i64 ((i : Int) + 3) = ((i + 3 : Nat) : Int) := by rw [i64w (by omega) (by omega)]; omega
  have w2 : IntKind.wrap IntKind.i64 ((i : Int) + 2) = ((i + 2 : Nat) : Int) := by rw [i64w (by omega) (by omega)]; omega
  have w1 : IntKind.wrap IntKind.i64 ((i : Int) + 1) = ((i + 1 : Nat) : Int) := by rw [i64w (by omega) (by omega)]; omega
  have z : ∀ n : Nat, (0 : Int) ≤ (n : Int) := fun n => Int.natCast_nonneg n
  have l1 : ((i + 1 : Nat) : Int) < (l.length : Int) := by omega
  have l2 : ((i + 2 : Nat) : Int) < (l.length : Int) := by omega
  have l3 : ((i + 3 : Nat) : Int) < (l.length : Int) := by omega
  have e3 : (acc.length + 1) * 72 ≤ 35184372088832 := by omega
  have hv3 := rvalue_f (l[i + 3]'(by omega)) (hs _ (List.getElem_mem _)) k (by omega)
  have hk1 := rkind_f (l[i + 1]'(by omega)) k (by omega)
  have r := ih (i + 4) (acc ++ [c]) hd4 (fun x hx => hv x (List.mem_cons_of_mem _ hx)) h2 (by simp; omega) (by omega) k (by simp at hk; omega)
  rw [← b1, c0] at r
  have hz : (we (l[i + 3]'(by omega)) != 0) = false := by rw [hw]; rfl
  simp only [r37_cols.s0, r37_cols.s0c, e0, w4, w3, w2, w1, e4, z, l1, l2, l3, e3, elem_str (show i < l.length by omega), elem_str (show i + 1 < l.length by omega), elem_str (show i + 2 < l.length by omega), elem_str (show i + 3 < l.length by omega), hv3, hk1, hz, tl_eq, decide_true, decide_false, Bool.and_self, cond_true, cond_false, os, ofs]
  refine r.trans ?_
  rw [← c0, b1, List.append_assoc]; rfl
theorem rcols_back_f (cs : List C) (hl : (colsL cs).2.length ≤ 1000000) (hs : Sm (colsL cs).2) (hv : ∀ c ∈ cs, OkV c.2.2.2.1) (h : (colsL cs).1 = 0) (k : Nat) (hk : 11000000 ≤ k) : r37_cols.f k (colsL cs).2 = some (cs, true) := by
 have hlen := colsL_len cs
 have r := rcols_back (colsL cs).2 hl hs cs 0 [] (by rw [List.drop_zero]) hv h (by simp) (by omega) k (by omega)
 have r : r37_cols.s0 k (colsL cs).2 0 [] = some (cs, true) := r
 simp only [r37_cols.f, r37_cols.c, r, ofs]
end Go.Proofs.YtimadphjdkjgaaaGreatDoor.Aev
