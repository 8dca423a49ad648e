import Derived.Test.YtimadphjdkjgaaaDoorF2
import Derived.Test.YtimadphjdkjgaaaDoorF4
import Derived.Test.YtimadphjdkjgaaaDoorWQuote

/- Quoted texts read again: the program's and the document's ways. -/
namespace Go.Proofs.YtimadphjdkjgaaaDoor.Aev
open Go
set_option linter.unusedVariables false
set_option linter.unusedSimpArgs false
set_option maxRecDepth 100000
def hex2 (a b : UInt8) : UInt8 := UInt8.ofNat (hv a * 16 + hv b)
def unq : List UInt8 → List UInt8
 | [] => []
 | [c] => [c]
 | c :: d :: t =>
  if c = 92 then
   (if d = 120 ∧ 2 ≤ t.length then hex2 (t.getD 0 0) (t.getD 1 0) :: unq (t.drop 2) else d :: unq t)
  else c :: unq (d :: t)
termination_by l => l.length
decreasing_by all_goals (simp; try omega)
theorem unq_1 (c : UInt8) : unq [c] = [c] := by rw [unq]
theorem unq_o (c d : UInt8) (t : List UInt8) (h : ¬ c = 92) : unq (c :: d :: t) = c :: unq (d :: t) := by rw [unq, if_neg h]
theorem unq_q (d : UInt8) (t : List UInt8) (h : ¬ d = 120) : unq (92 :: d :: t) = d :: unq t := by rw [unq, if_pos rfl, if_neg (fun q => h q.1)]
theorem unq_x (a b : UInt8) (u : List UInt8) : unq (92 :: 120 :: a :: b :: u) = hex2 a b :: unq u := by rw [unq, if_pos rfl, if_pos ⟨rfl, by simp⟩]; rfl
theorem unq_x0 : unq [92, 120] = [120] := by rw [unq, if_pos rfl, if_neg (by simp), unq]
theorem unq_x1 (a : UInt8) : unq [92, 120, a] = [120, a] := by rw [unq, if_pos rfl, if_neg (by simp), unq]
theorem unq_o' (c : UInt8) (t : List UInt8) (h : ¬ c = 92) : unq (c :: t) = c :: unq t := by
 cases t with
 | nil => rw [unq_1, unq]
 | cons d t => exact unq_o c d t h
theorem hx_cc (c : UInt8) : hex2 (hx (c.toNat / 16)) (hx (c.toNat % 16)) = c := by
 have hc := c.toNat_lt
 have h1 := hv_hx ⟨c.toNat / 16, by omega⟩
 have h2 := hv_hx ⟨c.toNat % 16, by omega⟩
 simp only at h1 h2
 unfold hex2
 rw [h1, h2, show c.toNat / 16 * 16 + c.toNat % 16 = c.toNat by omega, UInt8.ofNat_toNat]
theorem unq_qB (l : List UInt8) : unq (l.flatMap qB) = l := by
 induction l with
 | nil => rw [List.flatMap_nil, unq]
 | cons c l ih =>
  rw [List.flatMap_cons]
  unfold qB
  split
  ·rename_i h
   rw [List.cons_append, List.cons_append, List.nil_append, unq_q _ _ (by rintro rfl; simp at h)]
   congr 1
  ·rename_i h
   split
   ·rw [List.cons_append, List.cons_append, List.cons_append, List.cons_append, List.nil_append, unq_x, hx_cc]
    congr 1
   ·rw [List.cons_append, List.nil_append, unq_o' _ _ (fun q => h (Or.inr q))]
    congr 1
def unquoteL (l : List UInt8) : List UInt8 × Int :=
 if l.length < 2 then ([], 7) else if quoteL (unq ((l.drop 1).take (l.length - 2))) = l then (unq ((l.drop 1).take (l.length - 2)), 0) else ([], 7)
def encQ (q : List UInt8 × Int) : ByteArray × Int := (mkW q.1, q.2)
theorem unquote_quote (l : List UInt8) : unquoteL (quoteL l) = (l, 0) := by
 have h1 : (quoteL l).length = (l.flatMap qB).length + 2 := by simp [quoteL]
 have h2 : ((quoteL l).drop 1).take ((quoteL l).length - 2) = l.flatMap qB := by
  rw [h1]
  show ((l.flatMap qB) ++ [34]).take _ = _
  simp
 unfold unquoteL
 rw [if_neg (by omega), h2, unq_qB, if_pos rfl]
theorem unq_len : ∀ (n : Nat) (l : List UInt8), l.length ≤ n → (unq l).length ≤ l.length := by
 intro n
 induction n with
 | zero => intro l h; obtain rfl : l = [] := List.length_eq_zero_iff.1 (by omega); rw [unq]; simp
 | succ n ih =>
  intro l h
  match l, h with
  | [], _ => rw [unq]; simp
  | [c], _ => rw [unq]; simp
  | c :: d :: t, h =>
   simp only [List.length_cons] at h
   by_cases c1 : c = 92
   ·subst c1
    by_cases c2 : d = 120
    ·subst c2
     match t, h with
     | [], _ => rw [unq_x0]; simp
     | [a], _ => rw [unq_x1]; simp
     | a :: b :: u, h =>
      simp only [List.length_cons] at h
      rw [unq_x]; have := ih u (by omega); simp; omega
    ·rw [unq_q d t c2]; have := ih t (by omega); simp; omega
   ·rw [unq_o c d t c1]; have := ih (d :: t) (by simp; omega); simp at this ⊢; omega
theorem b120 (c : UInt8) : ((c.toNat : Int) == 120) = decide (c = 120) := byte_is c 120 (by omega)
theorem drop_two {l : List UInt8} {i : Nat} (h : i + 1 < l.length) : l.drop i = l[i] :: l[i + 1] :: l.drop (i + 2) := by
 rw [List.drop_eq_getElem_cons (show i < l.length by omega), List.drop_eq_getElem_cons (show i + 1 < l.length by omega)]
theorem tail_eq (s : List UInt8) (xs : List Int) (l : List UInt8) (hs : s.length ≤ 2000000) (hx : xs.length ≤ 1000000) (k : Nat) (hk : 4000100 ≤ k) :
  ((words_Quote.f k (mkW (xs.map b8))).bind fun r0 => (bif (!((ByteArray.toList r0) == (ByteArray.toList (mkW s)))) then (some (mkW [], (7 : Int))) else (some (mkW (xs.map b8), (0 : Int))))) = some (encQ (if quoteL (xs.map b8) = s then (xs.map b8, 0) else ([], 7))) := by
 rw [quote_eq (xs.map b8) (by simp; omega) k (by simp; omega), os, ba_toList, ba_toList]
 by_cases h : quoteL (xs.map b8) = s
 ·rw [if_pos h, h, beq_self_eq_true]; rfl
 ·rw [if_neg h, beq_eq_false_iff_ne.2 h]; rfl
theorem unquote_s0 (s l : List UInt8) (hs : s.length ≤ 2000000) (hl : l.length ≤ 1000000) : ∀ (m i : Nat) (xs : List Int), l.length - i ≤ m → i ≤ l.length → xs.length ≤ i → ∀ k, 5 * m + 4000200 < k →
  words_Unquote.s0 k (mkW s) (mkW l) (i : Int) xs = some (encQ (if quoteL (xs.map b8 ++ unq (l.drop i)) = s then (xs.map b8 ++ unq (l.drop i), 0) else ([], 7))) := by
 intro m
 induction m using Nat.strongRecOn with
 | _ m ih =>
  intro i xs hm hi hx' k hk
  obtain ⟨k, rfl⟩ : ∃ j, k = j + 5 := ⟨k - 5, by omega⟩
  by_cases h : i < l.length
  ·have e0 : (0 : Int) ≤ (i : Int) := by omega
   have e1 : (i : Int) < (l.length : Int) := by omega
   have w1 : IntKind.wrap IntKind.i64 ((i : Int) + 1) = ((i + 1 : Nat) : Int) := by rw [i64w (by omega) (by omega)]; omega
   -- the next step: j more bytes are read, c is put
   have nx : ∀ (q : Nat) (c : UInt8) (u : List UInt8) (kk : Nat), 5 * m + 4000197 < kk → i ≤ q → q < l.length → l.drop (q + 1) = u → unq (l.drop i) = c :: unq u →
     words_Unquote.s3 kk (mkW s) (mkW l) (q : Int) (c.toNat : Int) xs = some (encQ (if quoteL (xs.map b8 ++ unq (l.drop i)) = s then (xs.map b8 ++ unq (l.drop i), 0) else ([], 7))) := by
    intro q c u kk hkk hq1 hq2 hu hc
    obtain ⟨kk, rfl⟩ : ∃ j, kk = j + 2 := ⟨kk - 2, by omega⟩
    have n1 : (xs.length + 1) * 1 ≤ 35184372088832 := by omega
    have w2 : IntKind.wrap IntKind.i64 ((q : Int) + 1) = ((q + 1 : Nat) : Int) := by rw [i64w (by omega) (by omega)]; omega
    simp only [words_Unquote.s3, words_Unquote.s3c, words_Unquote.s4, words_Unquote.s4c, n1, w2, decide_true, cond_true, ofs]
    rw [ih (l.length - (q + 1)) (by omega) (q + 1) (xs ++ [(c.toNat : Int)]) (Nat.le_refl _) (by omega) (by simp; omega) kk (by omega), hu, hc, List.map_append, map_one, List.append_assoc]; rfl
   have hd := List.drop_eq_getElem_cons h
   by_cases c92 : l[i] = 92
   ·by_cases h1 : i + 1 < l.length
    ·have e2 : ((i + 1 : Nat) : Int) < (l.length : Int) := by omega
     have e3 : (0 : Int) ≤ ((i + 1 : Nat) : Int) := by omega
     have hd2 := drop_two h1
     have w3 : IntKind.wrap IntKind.i64 (((i + 1 : Nat) : Int) + 2) = ((i + 3 : Nat) : Int) := by rw [i64w (by omega) (by omega)]; omega
     have w4 : IntKind.wrap IntKind.i64 (((i + 1 : Nat) : Int) + 1) = ((i + 2 : Nat) : Int) := by rw [i64w (by omega) (by omega)]; omega
     have w5 : IntKind.wrap IntKind.i64 (((i + 1 : Nat) : Int) + 3) = ((i + 4 : Nat) : Int) := by rw [i64w (by omega) (by omega)]; omega
     simp only [words_Unquote.s0, words_Unquote.s0c, words_Unquote.s1, words_Unquote.s1c, ba_size, e0, e1, e2, e3, w1, ba_bt l i h, ba_bt l (i + 1) h1, b92, b120, c92, decide_true, Bool.and_self, cond_true, ofs, w3]
     by_cases c120 : l[i + 1] = 120
     ·rw [decide_eq_true c120]
      by_cases h3 : i + 3 < l.length
      ·have e4 : ((i + 3 : Nat) : Int) < (l.length : Int) := by omega
       have e5 : (0 : Int) ≤ ((i + 2 : Nat) : Int) := by omega
       have e6 : ((i + 2 : Nat) : Int) ≤ ((i + 4 : Nat) : Int) := by omega
       have e7 : ((i + 4 : Nat) : Int) ≤ (l.length : Int) := by omega
       have w6 : IntKind.wrap IntKind.i64 (((i + 1 : Nat) : Int) + 2) = ((i + 3 : Nat) : Int) := w3
       have ex : (mkW l).extract (i + 2) (i + 4) = mkW [l[i + 2], l[i + 3]] := by
        rw [ba_extract, ba_inj, show i + 4 - (i + 2) = 2 by omega, drop_two (show i + 2 + 1 < l.length by omega)]; rfl
       have hhx := hex_eq (l[i + 2]) (l[i + 3]) (k + 2) (by omega)
       have hd4 : l.drop i = 92 :: 120 :: l[i + 2] :: l[i + 3] :: l.drop (i + 4) := by
        rw [hd2, c92, c120, drop_two (show i + 2 + 1 < l.length by omega)]
       have h15 := hv_lt (l[i + 2])
       have h16 := hv_lt (l[i + 3])
       have ht : ((hex2 (l[i + 2]) (l[i + 3])).toNat : Int) = ((hv (l[i + 2]) * 16 + hv (l[i + 3]) : Nat) : Int) := by
        unfold hex2; rw [UInt8.toNat_ofNat']; omega
       have := nx (i + 3) (hex2 (l[i + 2]) (l[i + 3])) (l.drop (i + 4)) (k + 2) (by omega) (by omega) h3 rfl (by rw [hd4, unq_x])
       rw [ht] at this
       simp only [cond_true, words_Unquote.s2, words_Unquote.s2c, ba_size, e4, e5, e6, e7, w4, w5, Int.toNat_natCast, ex, hhx, decide_true, Bool.and_self, os, ofs, w6]
       exact this
      ·have e4 : ¬ ((i + 3 : Nat) : Int) < (l.length : Int) := by omega
       have hu : unq (l.drop i) = 120 :: unq (l.drop (i + 2)) := by
        rw [hd2, c92, c120]
        have hl2 : (l.drop (i + 2)).length < 2 := by simp; omega
        match l.drop (i + 2), hl2 with
        | [], _ => rw [unq_x0, unq]
        | [a], _ => rw [unq_x1, unq]
       have := nx (i + 1) 120 (l.drop (i + 2)) (k + 2) (by omega) (by omega) h1 rfl hu
       simp only [cond_true, words_Unquote.s2, words_Unquote.s2c, ba_size, e4, decide_false, cond_false, ofs, c120]
       exact this
     ·rw [decide_eq_false c120]
      have := nx (i + 1) l[i + 1] (l.drop (i + 2)) (k + 2) (by omega) (by omega) h1 rfl (by rw [hd2, c92, unq_q _ _ c120])
      simp only [cond_false, words_Unquote.s2, words_Unquote.s2c, ofs]
      exact this
    ·have e2 : ¬ ((i + 1 : Nat) : Int) < (l.length : Int) := by omega
     have hn : l.drop (i + 1) = [] := List.drop_eq_nil_of_le (by omega)
     have := nx i l[i] [] (k + 3) (by omega) (Nat.le_refl _) h hn (by rw [hd, hn, unq_1, unq])
     rw [c92] at this
     simp only [words_Unquote.s0, words_Unquote.s0c, words_Unquote.s1, words_Unquote.s1c, ba_size, e0, e1, e2, w1, ba_bt l i h, b92, c92, decide_true, decide_false, Bool.and_self, cond_true, cond_false, ofs]
     exact this
   ·have := nx i l[i] (l.drop (i + 1)) (k + 3) (by omega) (Nat.le_refl _) h rfl (by rw [hd, unq_o' _ _ c92])
    simp only [words_Unquote.s0, words_Unquote.s0c, words_Unquote.s1, words_Unquote.s1c, ba_size, e0, e1, ba_bt l i h, b92, c92, decide_true, decide_false, Bool.and_self, cond_true, cond_false, ofs]
    exact this
  ·have e1 : ¬ (i : Int) < (l.length : Int) := by omega
   have := tail_eq s xs l hs (by omega) (k + 4) (by omega)
   rw [List.drop_eq_nil_of_le (by omega), show unq [] = [] by rw [unq], List.append_nil]
   simp only [words_Unquote.s0, words_Unquote.s0c, ba_size, e1, decide_false, cond_false]
   exact this
theorem unquote_eq (l : List UInt8) (hl : l.length ≤ 500000) (k : Nat) (hk : 7000000 ≤ k) : words_Unquote.f k (mkW l) = some (encQ (unquoteL l)) := by
 simp only [words_Unquote.f, words_Unquote.c, ba_size, ofs]
 unfold unquoteL
 by_cases h : l.length < 2
 ·have e : (l.length : Int) < 2 := by omega
  rw [decide_eq_true e, if_pos h]; rfl
 ·have e : ¬ (l.length : Int) < 2 := by omega
  have w : IntKind.wrap IntKind.i64 ((l.length : Int) - 1) = ((l.length - 1 : Nat) : Int) := by rw [i64w (by omega) (by omega)]; omega
  have e1 : (1 : Int) ≤ ((l.length - 1 : Nat) : Int) := by omega
  have e2 : ((l.length - 1 : Nat) : Int) ≤ (l.length : Int) := by omega
  have ex : (mkW l).extract 1 (l.length - 1) = mkW ((l.drop 1).take (l.length - 2)) := by rw [ba_extract, show l.length - 1 - 1 = l.length - 2 by omega]
  have := unquote_s0 l ((l.drop 1).take (l.length - 2)) (by omega) (by simp; omega) (l.length) 0 [] (by simp; omega) (by omega) (by simp) k (by omega)
  rw [decide_eq_false e, if_neg h]
  simp only [cond_false, w, e1, e2, decide_true, Bool.and_self, cond_true, Int.toNat_natCast, ex]
  refine this.trans ?_
  rw [List.drop_zero]; rfl
end Go.Proofs.YtimadphjdkjgaaaDoor.Aev
