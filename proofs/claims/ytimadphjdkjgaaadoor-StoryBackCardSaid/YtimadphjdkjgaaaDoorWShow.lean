import Derived.Test.YtimadphjdkjgaaaDoorF2
import Derived.Test.YtimadphjdkjgaaaDoorF4
import Derived.Test.YtimadphjdkjgaaaDoorWUnqR
import Derived.Test.YtimadphjdkjgaaaDoorDec
import Derived.Test.YtimadphjdkjgaaaDoorVals

/- Values as words: the program's and the document's ways. -/
namespace Go.Proofs.YtimadphjdkjgaaaDoor.Aev
open Go
set_option linter.unusedVariables false
set_option linter.unusedSimpArgs false
set_option maxRecDepth 100000
def hexF (n : Nat) : Nat → List UInt8
 | 0 => []
 | m + 1 => hx (n / 2 ^ (4 * m) % 16) :: hexF n m
theorem hexF_len (n : Nat) : ∀ m, (hexF n m).length = m
 | 0 => rfl
 | m + 1 => by rw [hexF, List.length_cons, hexF_len n m]
abbrev tNull : List UInt8 := [110, 117, 108, 108]
abbrev tFalse : List UInt8 := [102, 97, 108, 115, 101]
abbrev tTrue : List UInt8 := [116, 114, 117, 101]
def showT (a0 a1 : Int) (n : Nat) (s : List UInt8) : List UInt8 :=
 if a0 = 1 then (if a1 = 0 then tFalse else tTrue) else if a0 = 2 then digL a1 else if a0 = 3 then 114 :: hexF n 16 else if a0 = 4 then 98 :: quoteL s else if a0 = 5 then quoteL s else tNull
noncomputable def showL (a0 a1 : Int) (n : Nat) (s : List UInt8) : List UInt8 × Int :=
 if checkS a0 a1 n (mkW s) = 0 then (showT a0 a1 n s, 0) else ([], checkS a0 a1 n (mkW s))
theorem and_15 {y : Nat} (h : y < 18446744073709551616) : IntKind.wrap IntKind.u64 ((BitVec.toNat ((BitVec.ofInt (64 : Nat) (y : Int)) &&& (BitVec.ofInt (64 : Nat) (15 : Int)))) : Int) = ((y % 16 : Nat) : Int) := by
 have := and_mask (n := y) (m := 15) (j := 4) (by omega) h (by omega)
 exact this
theorem shr_eq (n i : Nat) (hi : i ≤ 64) : Int.fdiv (n : Int) ((2 : Int) ^ (Min.min (Int.toNat (i : Int)) (64 : Nat))) = ((n / 2 ^ i : Nat) : Int) := by
 have e0 : Min.min (Int.toNat (i : Int)) 64 = i := by rw [Int.toNat_natCast]; omega
 have hp : (0 : Int) ≤ (2 : Int) ^ i := Int.pow_nonneg (by omega)
 rw [e0, Int.fdiv_eq_ediv_of_nonneg _ hp, Int.natCast_ediv, Int.natCast_pow]
 first | done | rfl
theorem div_lt (n i : Nat) (h : n < 18446744073709551616) : n / 2 ^ i < 18446744073709551616 := Nat.lt_of_le_of_lt (Nat.div_le_self _ _) h
theorem show_s0 (a0 a1 : Int) (n : Nat) (hn : n < 18446744073709551616) (s : ByteArray) : ∀ (m : Nat) (xs : List Int), m ≤ 16 → xs.length + m ≤ 1000 → ∀ k, m < k →
  words_Show.s0 k ((4 * m : Nat) - 4 : Int) a0 a1 (n : Int) s xs = some (mkW (xs.map b8 ++ hexF n m), 0) := by
 intro m
 induction m with
 | zero =>
  intro xs hm hx' k hk
  obtain ⟨k, rfl⟩ : ∃ j, k = j + 1 := ⟨k - 1, by omega⟩
  have e : ¬ (((4 * 0 : Nat) : Int) - 4 ≥ 0) := by omega
  simp only [words_Show.s0, words_Show.s0c, e, decide_false, cond_false, hexF, List.append_nil]
 | succ m ih =>
  intro xs hm hx' k hk
  obtain ⟨k, rfl⟩ : ∃ j, k = j + 1 := ⟨k - 1, by omega⟩
  have e0 : ((4 * (m + 1) : Nat) : Int) - 4 = ((4 * m : Nat) : Int) := by omega
  have e1 : ((4 * m : Nat) : Int) ≥ 0 := by omega
  have e1' : (0 : Int) ≤ ((4 * m : Nat) : Int) := by omega
  have e2 : ((n / 2 ^ (4 * m) % 16 : Nat) : Int) < 16 := Int.ofNat_lt.2 (Nat.mod_lt _ (by omega))
  have e3 : (xs.length + 1) * 1 ≤ 35184372088832 := by omega
  have w : IntKind.wrap IntKind.i64 (((4 * m : Nat) : Int) - 4) = ((4 * m : Nat) : Int) - 4 := i64w (by omega) (by omega)
  have := ih (xs ++ [bt (ByteArray.mk (List.toArray hexS)) ((n / 2 ^ (4 * m) % 16 : Nat) : Int)]) (by omega) (by simp; omega) k (by omega)
  rw [e0]
  simp only [words_Show.s0, words_Show.s0c, e1, e1', shr_eq n (4 * m) (by omega), and_15 (div_lt n (4 * m) hn), e2, e3, w, decide_true, Bool.and_self, cond_true, ofs]
  refine this.trans ?_
  rw [List.map_append, hexF]
  simp only [List.map_cons, List.map_nil, b8_hx _ (show n / 2 ^ (4 * m) % 16 < 16 by omega), List.append_assoc, List.cons_append, List.nil_append]
theorem show_eq (a0 a1 : Int) (h0 : -9223372036854775808 ≤ a1) (h1 : a1 ≤ 9223372036854775807) (n : Nat) (hn : n < 18446744073709551616) (s : List UInt8) (hs : s.length ≤ 2000000) (k : Nat) (hk : 4 * s.length + 400 ≤ k) :
  words_Show.f k a0 a1 (n : Int) (mkW s) = some (encQ (showL a0 a1 n s)) := by
 have q := quote_eq s (by omega) k (by omega)
 have d := digits_eq a1 h0 h1 k (by omega)
 have r := show_s0 a0 a1 n hn (mkW s) 16 [114] (by omega) (by simp) k (by omega)
 have r : words_Show.s0 k 60 a0 a1 (n : Int) (mkW s) [114] = _ := r
 have fl := flatq_len s
 have g1 : (quoteL s).length ≤ 4611686018427387903 := by unfold quoteL; rw [List.length_cons, List.length_append, List.length_singleton]; omega
 simp only [words_Show.f, words_Show.c, vcheck_eq (show 120 ≤ k by omega), q, d, r, os, showL]
 by_cases c : checkS a0 a1 n (mkW s) = 0
 ·rw [if_pos c, c]
  obtain ⟨⟨p0, p5⟩, f, pb, _⟩ := check_0.1 c
  simp only [bne_self_eq_false, cond_false, showT]
  by_cases c1 : a0 = 1
  ·subst c1
   rcases pb rfl with rfl | rfl
   ·rfl
   ·rfl
  ·by_cases c2 : a0 = 2
   ·subst c2; rfl
   ·by_cases c3 : a0 = 3
    ·subst c3; rfl
    ·by_cases c4 : a0 = 4
     ·subst c4
      simp only [ba_size, g1, decide_true, Bool.and_self, cond_true, ba_append]; rfl
     ·by_cases c5 : a0 = 5
      ·subst c5; rfl
      ·have : a0 = 0 := by omega
       subst this; rfl
 ·rw [if_neg c, bne_iff_ne.2 c]; rfl
/-! ### a word's value, as a guess -/
def hexN (x : Nat) (l : List UInt8) : Nat := l.foldl (fun n c => n * 16 + hv c) x
abbrev GV : Type := Int × Int × Nat × List UInt8
def guessL (l : List UInt8) : GV :=
 if l = tNull then (0, 0, 0, []) else if l = tFalse then (1, 0, 0, []) else if l = tTrue then (1, 1, 0, [])
 else match l with
  | [] => (2, (numL l).1, 0, [])
  | c :: t => if l.length = 17 ∧ c = 114 then (3, 0, hexN 0 t, []) else if c = 98 then (4, 0, 0, (unquoteL t).1) else if c = 34 then (5, 0, 0, (unquoteL l).1) else (2, (numL l).1, 0, [])
def encG (q : GV) : Int × Int × Int × ByteArray := (q.1, q.2.1, (q.2.2.1 : Int), mkW q.2.2.2)
theorem hexN_lt : ∀ (l : List UInt8) (x j : Nat), x < 16 ^ j → hexN x l < 16 ^ (j + l.length)
 | [], x, j, h => h
 | c :: t, x, j, h => by
  have hc := hv_lt c
  have := hexN_lt t (x * 16 + hv c) (j + 1) (by
   have : (x + 1) * 16 ≤ 16 ^ j * 16 := Nat.mul_le_mul_right _ h
   rw [Nat.pow_succ]; omega)
  rw [List.length_cons, show j + (t.length + 1) = j + 1 + t.length by omega]
  exact this
theorem or_256 {x d : Nat} (hx' : x < 72057594037927936) (hd : d < 256) : IntKind.wrap IntKind.u64 ((BitVec.toNat ((BitVec.ofInt (64 : Nat) (IntKind.wrap IntKind.u64 ((x : Int) * (256 : Int)))) ||| (BitVec.ofInt (64 : Nat) (IntKind.wrap IntKind.u64 (d : Int))))) : Int) = ((x * 256 + d : Nat) : Int) := by
 rw [u64w (n := (x : Int) * 256) (by omega) (by omega), u64w (n := (d : Int)) (by omega) (by omega)]
 have := or_sum (a := x) (b := d) (j := 8) (by omega) (by omega)
 refine Eq.trans ?_ this
 have e : ((x * 2 ^ 8 : Nat) : Int) = (x : Int) * 256 := by omega
 rw [e]; rfl
theorem guess_s2 (l : List UInt8) (hl : l.length = 17) (y1 y2 y3 : Int) (y4 : ByteArray) : ∀ (m i x : Nat), i + 2 * m = 17 → 1 ≤ i → x < 16 ^ (i - 1) → ∀ k, m + 100 < k →
  words_guess.s2 k (mkW l) (i : Int) y1 y2 y3 y4 3 0 (x : Int) (mkW []) = some (3, 0, (hexN x (l.drop i) : Int), mkW []) := by
 intro m
 induction m with
 | zero =>
  intro i x hi h1 hx' k hk
  obtain ⟨k, rfl⟩ : ∃ j, k = j + 1 := ⟨k - 1, by omega⟩
  have e : ¬ (i : Int) < (l.length : Int) := by omega
  rw [List.drop_eq_nil_of_le (by omega)]
  simp only [words_guess.s2, words_guess.s2c, ba_size, e, decide_false, cond_false]; rfl
 | succ m ih =>
  intro i x hi h1 hx' k hk
  obtain ⟨k, rfl⟩ : ∃ j, k = j + 1 := ⟨k - 1, by omega⟩
  have e : (i : Int) < (l.length : Int) := by omega
  have e0 : (0 : Int) ≤ (i : Int) := by omega
  have w : IntKind.wrap IntKind.i64 ((i : Int) + 2) = ((i + 2 : Nat) : Int) := by rw [i64w (by omega) (by omega)]; omega
  have e1 : (i : Int) ≤ ((i + 2 : Nat) : Int) := by omega
  have e2 : ((i + 2 : Nat) : Int) ≤ (l.length : Int) := by omega
  have hd2 := drop_two (l := l) (i := i) (by omega)
  have ex : (mkW l).extract i (i + 2) = mkW [l[i], l[i + 1]] := by
   rw [ba_extract, ba_inj, show i + 2 - i = 2 by omega, hd2]; rfl
  have ha := hv_lt l[i]
  have hb := hv_lt l[i + 1]
  have hp : 16 ^ (i - 1) ≤ 16 ^ 14 := Nat.pow_le_pow_right (by omega) (by omega)
  have hx2 : x < 72057594037927936 := by omega
  have hp2 : 16 ^ (i + 2 - 1) = 16 ^ (i - 1) * 256 := by rw [show i + 2 - 1 = (i - 1) + 2 by omega, Nat.pow_add]
  have hlt : x * 256 + (hv l[i] * 16 + hv l[i + 1]) < 16 ^ (i + 2 - 1) := by
   rw [hp2]
   have : (x + 1) * 256 ≤ 16 ^ (i - 1) * 256 := Nat.mul_le_mul_right _ hx'
   omega
  have := ih (i + 2) (x * 256 + (hv l[i] * 16 + hv l[i + 1])) (by omega) (by omega) hlt k (by omega)
  simp only [words_guess.s2, words_guess.s2c, ba_size, e, e0, e1, e2, w, Int.toNat_natCast, ex, hex_eq l[i] l[i + 1] k (by omega), or_256 hx2 (show hv l[i] * 16 + hv l[i + 1] < 256 by omega), decide_true, Bool.and_self, cond_true, os, ofs]
  refine this.trans ?_
  rw [hd2]
  unfold hexN
  simp only [List.foldl_cons]
  rw [show (x * 16 + hv l[i]) * 16 + hv l[i + 1] = x * 256 + (hv l[i] * 16 + hv l[i + 1]) by omega]
theorem prefix_eq (c d : UInt8) (t : List UInt8) (k : Nat) : strings_HasPrefix.f k (mkW (c :: t)) (mkW [d]) = some (decide (c = d)) := by
 have e : (((c :: t).length : Nat) : Int) ≥ (([d].length : Nat) : Int) := by simp; omega
 have e2 : (([d].length : Nat) : Int) ≤ (((c :: t).length : Nat) : Int) := e
 have ex : (mkW (c :: t)).extract 0 1 = mkW [c] := by rw [ba_extract]; rfl
 have n1 : Int.toNat (([d].length : Nat) : Int) = 1 := rfl
 simp only [strings_HasPrefix.f, strings_HasPrefix.c, stringslite_HasPrefix.f, stringslite_HasPrefix.c, ba_size, e, e2, n1, ex, decide_true, Bool.and_self, cond_true, os, ba_toList]
 congr 1
 rw [Bool.eq_iff_iff, beq_iff_eq, decide_eq_true_eq]; simp
theorem prefix_nil (d : UInt8) (k : Nat) : strings_HasPrefix.f k (mkW []) (mkW [d]) = some false := rfl
theorem lbeq (l m : List UInt8) : (l == m) = decide (l = m) := by rw [Bool.eq_iff_iff, beq_iff_eq, decide_eq_true_eq]
theorem b114 (c : UInt8) : ((c.toNat : Int) == 114) = decide (c = 114) := byte_is c 114 (by omega)
theorem guess_s1 (l : List UInt8) (hl : l.length ≤ 100000) (h1 : ¬ l = tNull) (h2 : ¬ l = tFalse) (h3 : ¬ l = tTrue) (y1 y2 y3 : Int) (y4 : ByteArray) (b : Bool) (hb : b = true ↔ l.length = 17 ∧ ∃ t, l = 114 :: t) (k : Nat) (hk : 8000000 ≤ k) :
  words_guess.s1 (k + 1) (mkW l) b y1 y2 y3 y4 0 0 0 (mkW []) = some (encG (guessL l)) := by
 have nb := number_eq' l (by omega) k (by omega)
 cases b
 ·cases l with
  | nil =>
   simp only [words_guess.s1, words_guess.s1c, cond_false, prefix_nil, os, nb]
   simp only [guessL, h1, h2, h3, if_false]; rfl
  | cons c t =>
   have hn : ¬ ((c :: t).length = 17 ∧ c = 114) := fun q => by
    have := hb.2 ⟨q.1, t, by rw [q.2]⟩; simp at this
   have u1 := unquote_eq t (by simp at hl; omega) k (by omega)
   have u2 := unquote_eq (c :: t) (by omega) k (by omega)
   have g1 : (1 : Int) ≤ (((c :: t).length : Nat) : Int) := by rw [List.length_cons]; omega
   have g2 : (((c :: t).length : Nat) : Int) ≤ (((c :: t).length : Nat) : Int) := Int.le_refl _
   simp only [words_guess.s1, words_guess.s1c, cond_false, prefix_eq, os, nb, u2, ba_size, g1, g2, ba_dropl, List.drop_succ_cons, List.drop_zero, u1, decide_true, Bool.and_self, cond_true]
   simp only [guessL, h1, h2, h3, hn, if_false]
   by_cases c98 : c = 98
   ·simp only [c98, decide_true, cond_true, if_true]; rfl
   ·simp only [c98, decide_false, cond_false, if_false]
    by_cases c34 : c = 34
    ·simp only [c34, decide_true, cond_true, if_true]; rfl
    ·simp only [c34, decide_false, cond_false, if_false]; rfl
 ·obtain ⟨q1, t, rfl⟩ := hb.1 rfl
  have := guess_s2 (114 :: t) q1 y1 y2 y3 y4 8 1 0 (by omega) (by omega) (by simp) k (by omega)
  have this : words_guess.s2 k (mkW (114 :: t)) 1 y1 y2 y3 y4 3 0 0 (mkW []) = _ := this
  simp only [words_guess.s1, words_guess.s1c, cond_true, ofs]
  refine this.trans ?_
  simp only [guessL, h1, h2, h3, q1, true_and, if_false, if_true]; rfl
theorem guess_eq (l : List UInt8) (hl : l.length ≤ 100000) (k : Nat) (hk : 9000000 ≤ k) : words_guess.f k (mkW l) = some (encG (guessL l)) := by
 obtain ⟨k, rfl⟩ : ∃ j, k = j + 2 := ⟨k - 2, by omega⟩
 simp only [words_guess.f, words_guess.c, ba_toList, lbeq, ofs]
 by_cases h1 : l = tNull
 ·rw [decide_eq_true h1]; subst h1; rfl
 ·rw [decide_eq_false h1, cond_false]
  by_cases h2 : l = tFalse
  ·rw [decide_eq_true h2]; subst h2
   simp only [words_guess.s0, words_guess.s0c, cond_true, ba_toList, lbeq]; rfl
  ·rw [decide_eq_false h2, cond_false]
   by_cases h3 : l = tTrue
   ·rw [decide_eq_true h3]; subst h3
    simp only [words_guess.s0, words_guess.s0c, cond_true, ba_toList, lbeq]; rfl
   ·rw [decide_eq_false h3]
    have S := fun b hb => guess_s1 l hl h1 h2 h3 0 0 0 (mkW []) b hb k (by omega)
    simp only [words_guess.s0, words_guess.s0c, cond_false, ba_size, ofs]
    by_cases c : l.length = 17
    ·have e : ((l.length : Int) == 17) = true := by rw [beq_iff_eq]; omega
     have e2 : (0 : Int) < (l.length : Int) := by omega
     rw [e, decide_eq_true e2]
     cases l with
     | nil => simp at c
     | cons x t =>
      simp only [cond_true, Bool.and_self, ba_bt0, b114]
      refine S _ ?_
      rw [decide_eq_true_iff]
      exact ⟨fun q => ⟨c, t, by rw [q]⟩, fun ⟨_, u, q⟩ => by simp at q; exact q.1⟩
    ·have e : ((l.length : Int) == 17) = false := by rw [beq_eq_false_iff_ne]; omega
     rw [e]
     exact S false (by simp [c])
/-! ### a word's value -/
theorem unquoteL_len (l : List UInt8) : (unquoteL l).1.length ≤ l.length := by
 unfold unquoteL
 split
 ·simp
 ·split
  ·have := unq_len _ ((l.drop 1).take (l.length - 2)) (Nat.le_refl _)
   simp at this ⊢; omega
  ·simp
theorem numL_in (l : List UInt8) : -9223372036854775808 ≤ (numL l).1 ∧ (numL l).1 ≤ 9223372036854775807 := by
 have key : ∀ s b, -9223372036854775808 ≤ (numS s b l).1 ∧ (numS s b l).1 ≤ 9223372036854775807 := by
  intro s b
  have := wrapS_in s (valL 0 b)
  unfold numS
  split
  ·split
   ·exact this
   ·simp
  ·simp
 cases l with
 | nil => simp [numL]
 | cons c t =>
  simp only [numL]
  split
  ·split
   ·simp
   ·exact key _ _
  ·split
   ·simp
   ·exact key _ _
theorem guess_ok (l : List UInt8) : (-9223372036854775808 ≤ (guessL l).2.1 ∧ (guessL l).2.1 ≤ 9223372036854775807) ∧ (guessL l).2.2.1 < 18446744073709551616 ∧ (guessL l).2.2.2.length ≤ l.length := by
 have hn := numL_in l
 have hu := unquoteL_len l
 unfold guessL
 split
 ·simp
 ·split
  ·simp
  ·split
   ·simp
   ·cases l with
    | nil => exact ⟨hn, by simp, by simp⟩
    | cons c t =>
     have hu2 := unquoteL_len t
     simp only
     split
     ·rename_i q
      have := hexN_lt t 0 0 (by simp)
      have hl : t.length = 16 := by have := q.1; simp at this; omega
      rw [hl] at this
      refine ⟨by simp, ?_, by simp⟩
      simp only; omega
     ·split
      ·refine ⟨by simp, by simp, ?_⟩; simp only [List.length_cons]; omega
      ·split
       ·exact ⟨by simp, by simp, hu⟩
       ·exact ⟨hn, by simp, by simp⟩
noncomputable def valueL (l : List UInt8) : GV × Int :=
 if (showL (guessL l).1 (guessL l).2.1 (guessL l).2.2.1 (guessL l).2.2.2).2 = 0 ∧ (showL (guessL l).1 (guessL l).2.1 (guessL l).2.2.1 (guessL l).2.2.2).1 = l then (guessL l, 0) else ((0, 0, 0, []), 7)
def encV (q : GV × Int) : Int × Int × Int × ByteArray × Int := (q.1.1, q.1.2.1, (q.1.2.2.1 : Int), mkW q.1.2.2.2, q.2)
theorem value_of (q : List UInt8 × Int) (g : GV) (l : List UInt8) : (bif ((encQ q).2 != (0 : Int)) then (some ((0 : Int), (0 : Int), (0 : Int), mkW [], (7 : Int))) else (bif (!((ByteArray.toList (encQ q).1) == (ByteArray.toList (mkW l)))) then (some ((0 : Int), (0 : Int), (0 : Int), mkW [], (7 : Int))) else (some ((encG g).1, (encG g).2.1, (encG g).2.2.1, (encG g).2.2.2, (0 : Int))))) = some (encV (if q.2 = 0 ∧ q.1 = l then (g, 0) else ((0, 0, 0, []), 7))) := by
 have e1 : (encQ q).2 = q.2 := rfl
 have e2 : (ByteArray.toList (encQ q).1) = q.1 := ba_toList _
 rw [e1, e2, ba_toList]
 by_cases c : q.2 = 0
 ·by_cases d : q.1 = l
  ·rw [if_pos ⟨c, d⟩, c, d, beq_self_eq_true]; rfl
  ·rw [if_neg (fun z => d z.2), c, beq_eq_false_iff_ne.2 d]; rfl
 ·rw [if_neg (fun z => c z.1), bne_iff_ne.2 c]; rfl
theorem wvalue_eq (l : List UInt8) (hl : l.length ≤ 100000) (k : Nat) (hk : 9000000 ≤ k) : words_Value.f k (mkW l) = some (encV (valueL l)) := by
 obtain ⟨⟨b0, b1⟩, hn, hs⟩ := guess_ok l
 have s := show_eq (guessL l).1 (guessL l).2.1 b0 b1 (guessL l).2.2.1 hn (guessL l).2.2.2 (by omega) k (by omega)
 have s : words_Show.f k (encG (guessL l)).1 (encG (guessL l)).2.1 (encG (guessL l)).2.2.1 (encG (guessL l)).2.2.2 = _ := s
 simp only [words_Value.f, words_Value.c, guess_eq l hl k hk, os, s]
 exact value_of _ _ _
end Go.Proofs.YtimadphjdkjgaaaDoor.Aev
