import Derived.Test.YtijjlpgcpdapnaaGreatDoorF3
import Derived.Test.YtijjlpgcpdapnaaGreatDoorF4
import Derived.Test.YtijjlpgcpdapnaaGreatDoorF5
import Derived.Test.YtijjlpgcpdapnaaGreatDoorReals
import Derived.Test.YtijjlpgcpdapnaaGreatDoorDec
import Derived.Test.YtijjlpgcpdapnaaGreatDoorKey
import Derived.Test.YtijjlpgcpdapnaaGreatDoorNumber

/- What becomes of a value: the program's and the document's ways. -/
namespace Go.Proofs.YtijjlpgcpdapnaaGreatDoor.Aev
open Go
set_option linter.unusedVariables false
set_option linter.unusedSimpArgs false
set_option maxRecDepth 100000
abbrev nilB : ByteArray := ByteArray.mk (List.toArray [])
abbrev mkB (l : List UInt8) : ByteArray := ByteArray.mk (List.toArray l)
abbrev tFalse : List UInt8 := [102, 97, 108, 115, 101]
abbrev tTrue : List UInt8 := [116, 114, 117, 101]
inductive CR where
 | no (e : Int)
 | ok (t a : Int) (n : Nat) (s : List UInt8)
abbrev VV4 : Type := Int × Int × Int × ByteArray
def sumL : CR → Int ⊕ VV4
 | .no e => .inl e
 | .ok t a n s => .inr (t, a, (n : Int), mkB s)
def sumR : CR → VV4 ⊕ Int
 | .no e => .inr e
 | .ok t a n s => .inl (t, a, (n : Int), mkB s)
def encC : CR → Int × Int × Int × ByteArray × Int
 | .no e => (0, 0, 0, nilB, e)
 | .ok t a n s => (t, a, (n : Int), mkB s, 0)
def cInt (n t : Int) : CR :=
 if t = 1 then (if n = 0 ∨ n = 1 then .ok t n 0 [] else .no 6) else if t = 3 then (if Fl.exact n.natAbs = true then .ok t 0 (wd n) [] else .no 6)
 else if t = 4 then .ok t 0 0 ((eightI (n % 18446744073709551616).toNat).map b8) else if t = 5 then .ok t 0 0 (digL n) else .ok t n 0 []
def cBool (a t : Int) : CR := if t = 5 then .ok t 0 0 (if a = 0 then tFalse else tTrue) else cInt a t
def cReal (n : Nat) (t : Int) : CR := if t = 4 then .ok t 0 0 ((eightI n).map b8) else if (toI n).2 = true then cInt (toI n).1 t else .no 6
noncomputable def cBytes (s : List UInt8) (t : Int) : CR := if t = 5 then (if validU s = true then .ok t 0 0 s else .no 7) else if s.length ≠ 8 then .no 6 else if t = 3 then .ok t 0 (canon (numB s)) [] else .ok t (sgn (numB s)) 0 []
def cText (s : List UInt8) (t : Int) : CR := if t = 4 then .ok t 0 0 s else if t = 1 then (if s = tFalse then .ok t 0 0 [] else if s = tTrue then .ok t 1 0 [] else .no 7) else if (numL s).2 = 0 then .ok t (numL s).1 0 [] else .no (numL s).2
def canB (a t : Int) : Bool := decide (1 ≤ a ∧ a ≤ 5 ∧ 1 ≤ t ∧ t ≤ 5 ∧ ¬ ((a = 1 ∧ t = 4) ∨ (a = 4 ∧ t = 1) ∨ (a = 3 ∧ t = 5) ∨ (a = 5 ∧ t = 3)))
noncomputable def toC (a0 a1 : Int) (n : Nat) (s : List UInt8) (t : Int) : CR :=
 if checkS a0 a1 n (mkB s) ≠ 0 then .no (checkS a0 a1 n (mkB s)) else if t < 1 ∨ 5 < t then .no 5 else if a0 = 0 ∨ a0 = t then .ok a0 a1 n s
 else if canB a0 t = false then .no 5 else if a0 = 1 then cBool a1 t else if a0 = 2 then cInt a1 t else if a0 = 3 then cReal n t else if a0 = 4 then cBytes s t else cText s t
theorem can_eq (a t : Int) (k : Nat) (hk : 2 ≤ k) : convert_Can.f k a t = some (canB a t) := by
 obtain ⟨k, rfl⟩ : ∃ j, k = j + 2 := ⟨k - 2, by omega⟩
 simp only [convert_Can.f, convert_Can.c, convert_Can.s0, convert_Can.s0c, convert_Can.s1, convert_Can.s1c, cond_true, cond_false, if_b, decide_eq_true_eq, Bool.and_eq_true, Bool.or_eq_true, beq_iff_eq, bne_iff_ne, ne_eq, Bool.not_eq_true', Bool.not_eq_false', Bool.true_and, Bool.and_true, Bool.false_eq_true, if_false, if_true, true_and, and_true, os, Option.bind_none, ofs, beq_eq_false_iff_ne, decide_eq_false_iff_not, toList_iff]
 unfold canB
 by_cases h1 : a < 1
 ·rw [if_pos h1, decide_eq_false (by omega)]
 ·by_cases h2 : a > 5
  ·rw [if_neg h1, if_pos h2, decide_eq_false (by omega)]
  ·by_cases h3 : t < 1
   ·rw [if_neg h1, if_neg h2, if_pos h3, decide_eq_false (by omega)]
   ·rw [if_neg h1, if_neg h2, if_neg h3]
    by_cases h4 : t > 5
    ·rw [if_pos h4, decide_eq_false (by omega)]
    ·rw [if_neg h4]
     repeat' split
     all_goals first | (rw [decide_eq_false (by omega)]; done) | (rw [decide_eq_true (by omega)]; done) | (exfalso; omega)
theorem ref_eq (e : Int) (k : Nat) : convert_refuse.f k e = some e := rfl
theorem giv_eq (a b c : Int) (d : ByteArray) (k : Nat) : convert_give.f k a b c d = some (a, b, c, d) := rfl
theorem ref1_eq (e : Int) (k : Nat) : convert_refuse_1.f k e = some (0, 0, 0, nilB, e, e) := rfl
theorem giv1_eq (a b c : Int) (d : ByteArray) (k : Nat) : convert_give_1.f k a b c d = some (a, b, c, d, 0, a, b, c, d) := rfl
theorem c8_step (n i : Nat) (hi : i < 8) (xs : List Int) (k : Nat) : convert_eight.s0 (k + 1) (n : Int) (i : Int) xs = convert_eight.s0 k (n : Int) ((i + 1 : Nat) : Int) (xs.set i (byteAt n (56 - 8 * i))) := by
 have e1 : (i : Int) < 8 := by omega
 have e0 : (0 : Int) ≤ (i : Int) := by omega
 have e4 : IntKind.wrap IntKind.i64 ((8 : Int) * (i : Int)) = 8 * i := i64w (by omega) (by omega)
 have e5 : IntKind.wrap IntKind.i64 ((56 : Int) - 8 * (i : Int)) = ((56 - 8 * i : Nat) : Int) := by rw [i64w (by omega) (by omega)]; omega
 have e2 : (0 : Int) ≤ ((56 - 8 * i : Nat) : Int) := by omega
 have e7 : IntKind.wrap IntKind.i64 ((i : Int) + 1) = ((i + 1 : Nat) : Int) := by rw [i64w (by omega) (by omega)]; omega
 simp only [convert_eight.s0, convert_eight.s0c, e0, e4, e5, e1, e2, e7, decide_true, cond_true, Bool.and_self, ofs, byteAt_eq n (56 - 8 * i) (by omega), Int.toNat_natCast (n := i)]
theorem c8_end (n : Nat) (xs : List Int) (hx : xs.length = 8) (k : Nat) : convert_eight.s0 (k + 1) (n : Int) ((8 : Nat) : Int) xs = some (mkB (xs.map b8)) := by
 have e1 : ¬ ((8 : Nat) : Int) < 8 := by omega
 simp only [convert_eight.s0, convert_eight.s0c, e1, decide_false, cond_false, List.drop_zero]
 rw [List.take_of_length_le (by omega)]
 first | done | rfl
theorem c8_eq (n : Nat) (k : Nat) (hk : 10 ≤ k) : convert_eight.f k (n : Int) = some (mkB ((eightI n).map b8)) := by
 obtain ⟨k, rfl⟩ : ∃ j, k = j + 9 := ⟨k - 9, by omega⟩
 simp only [convert_eight.f, convert_eight.c, ofs]
 refine (c8_step n 0 (by omega) _ (k + 8)).trans ?_
 refine (c8_step n 1 (by omega) _ (k + 7)).trans ?_
 refine (c8_step n 2 (by omega) _ (k + 6)).trans ?_
 refine (c8_step n 3 (by omega) _ (k + 5)).trans ?_
 refine (c8_step n 4 (by omega) _ (k + 4)).trans ?_
 refine (c8_step n 5 (by omega) _ (k + 3)).trans ?_
 refine (c8_step n 6 (by omega) _ (k + 2)).trans ?_
 refine (c8_step n 7 (by omega) _ (k + 1)).trans ?_
 exact c8_end n _ rfl k
theorem wrapn (n : Int) : IntKind.wrap IntKind.u64 n = (((n % 18446744073709551616).toNat : Nat) : Int) := by rw [u64m]; omega
theorem ofint_eq {n t : Int} (h0 : -9223372036854775808 ≤ n) (h1 : n ≤ 9223372036854775807) (k : Nat) (hk : 300 ≤ k) : convert_ofInt.f k n t = some (sumL (cInt n t)) := by
 simp only [convert_ofInt.f, convert_ofInt.c, fromint_f h0 h1, wrapn, c8_eq _ k (by omega), digits_eq n h0 h1 k (by omega), ref_eq, giv_eq, os]
 unfold cInt
 by_cases t1 : t = 1
 ·subst t1
  by_cases c0 : n = 0
  ·subst c0; rfl
  ·by_cases c1 : n = 1
   ·subst c1; rfl
   ·simp only [c0, c1, bne_iff_ne.2 c0, bne_iff_ne.2 c1, beq_self_eq_true, cond_true, if_true, or_self, if_false]; rfl
 ·by_cases t3 : t = 3
  ·subst t3
   unfold fromI
   by_cases c : Fl.exact n.natAbs = true
   ·rw [if_pos c]; simp only [c, if_true]; rfl
   ·rw [if_neg c]; simp only [c, if_false]; rfl
  ·by_cases t4 : t = 4
   ·subst t4; rfl
   ·by_cases t5 : t = 5
    ·subst t5; rfl
    ·simp only [t1, t3, t4, t5, beq_eq_false_iff_ne.2 t1, beq_eq_false_iff_ne.2 t3, beq_eq_false_iff_ne.2 t4, beq_eq_false_iff_ne.2 t5, cond_false, if_false]; rfl
theorem ofbool_eq {a t : Int} (ha : a = 0 ∨ a = 1) (k : Nat) (hk : 300 ≤ k) : convert_ofBool.f k a t = some (sumR (cBool a t)) := by
 simp only [convert_ofBool.f, convert_ofBool.c, ofint_eq (n := a) (t := t) (by omega) (by omega) k hk, giv_eq, os]
 unfold cBool
 by_cases t5 : t = 5
 ·subst t5
  rcases ha with rfl | rfl <;> rfl
 ·simp only [t5, beq_eq_false_iff_ne.2 t5, cond_false, if_false]
  cases cInt a t <;> rfl
theorem toI_in {n : Nat} (h : (toI n).2 = true) : -9223372036854775808 ≤ (toI n).1 ∧ (toI n).1 ≤ 9223372036854775807 := by
 unfold toI at *
 by_cases c : isI n = true
 ·rw [if_pos c]
  obtain ⟨h1, h2, h3, _⟩ := (is_eq n).1 c
  have hk := Fl.rung_key n
  have hT : Fl.T (Fl.rung n) ≤ 9223372036854775808 := by have := Fl.T_mono (show Fl.rung n ≤ 4890909195324358656 by omega); rw [Fl.T_edge] at this; exact this
  unfold Fl.sg
  simp only
  cases hn : Fl.neg n
  ·have e : Fl.key n = (Fl.rung n : Int) := by unfold Fl.key; rw [hn]; simp
   have := Fl.T_mono (show Fl.rung n ≤ 4890909195324358655 by omega)
   rw [Fl.T_below] at this
   simp only [Bool.false_eq_true, if_false]; omega
  ·simp only [if_true]; omega
 ·rw [if_neg c] at h; simp at h
theorem ofreal_eq {n : Nat} {t : Int} (h : n < 18446744073709551616) (k : Nat) (hk : 300 ≤ k) : convert_ofReal.f k (n : Int) t = some (sumR (cReal n t)) := by
 simp only [convert_ofReal.f, convert_ofReal.c, toint_f, c8_eq _ k (by omega), ref_eq, giv_eq, os]
 unfold cReal
 by_cases t4 : t = 4
 ·subst t4; rfl
 ·simp only [t4, beq_eq_false_iff_ne.2 t4, cond_false, if_false]
  by_cases c : (toI n).2 = true
  ·obtain ⟨b0, b1⟩ := toI_in c
   rw [c]
   simp only [Bool.not_true, cond_false, ofint_eq (t := t) b0 b1 k hk, os, if_true]
   cases cInt (toI n).1 t <;> rfl
  ·rw [Bool.not_eq_true] at c
   rw [c]; rfl
theorem ofbytes_s2 (l : List UInt8) (hl : l.length = 8) (t : Int) : ∀ (m i x : Nat), i + m = 8 → x < 256 ^ i → ∀ k, m < k → convert_ofBytes.s2 k t (x : Int) (l.map fun b => ((UInt8.toNat b : Nat) : Int)) (l.length : Int) (i : Int) = some (sumL (if t = 3 then .ok t 0 (canon (((l.drop i).take m).foldl (fun n c => n * 256 + c.toNat) x)) [] else .ok t (sgn (((l.drop i).take m).foldl (fun n c => n * 256 + c.toNat) x)) 0 [])) := by
 intro m
 induction m with
 | zero =>
  intro i x hi hx k hk
  obtain ⟨k, rfl⟩ : ∃ j, k = j + 1 := ⟨k - 1, by omega⟩
  have e : ¬ (i : Int) < (l.length : Int) := by omega
  have hx8 : x < 18446744073709551616 := by
   have : 256 ^ i = 256 ^ 8 := by rw [show i = 8 by omega]
   omega
  simp only [convert_ofBytes.s2, convert_ofBytes.s2c, e, decide_false, cond_false, List.take_zero, List.foldl_nil, canon_eq, giv_eq, os, sgn_eq hx8]
  by_cases t3 : t = 3
  ·subst t3; rfl
  ·simp only [t3, beq_eq_false_iff_ne.2 t3, cond_false, if_false]; rfl
 | succ m ih =>
  intro i x hi hx k hk
  obtain ⟨k, rfl⟩ : ∃ j, k = j + 1 := ⟨k - 1, by omega⟩
  have hlt : i < l.length := by omega
  have e0 : (i : Int) < (l.length : Int) := by omega
  have e1 : (0 : Int) ≤ (i : Int) := by omega
  have e2 : (i : Int) < ((l.map fun b => ((UInt8.toNat b : Nat) : Int)).length : Int) := by simp; omega
  have e3 : IntKind.wrap IntKind.i64 ((i : Int) + 1) = ((i + 1 : Nat) : Int) := by rw [i64w (by omega) (by omega)]; omega
  have hp : 256 ^ i ≤ 256 ^ 7 := Nat.pow_le_pow_right (by omega) (by omega)
  have hx2 : x < 72057594037927936 := by omega
  have hd : l.drop i = l[i] :: l.drop (i + 1) := List.drop_eq_getElem_cons hlt
  have hc := (l[i]).toNat_lt
  have := ih (i + 1) (x * 256 + (l[i]).toNat) (by omega) (by
   have : (x + 1) * 256 ≤ 256 ^ i * 256 := Nat.mul_le_mul_right _ hx
   rw [Nat.pow_succ]; omega) k (by omega)
  simp only [convert_ofBytes.s2, convert_ofBytes.s2c, e0, e1, e2, elem_u8' l i hlt, or_step hx2, e3, decide_true, Bool.and_self, cond_true, ofs, this, hd, List.take_succ_cons, List.foldl_cons]
theorem ofbytes_eq (s : List UInt8) (hs : s.length ≤ 100000) (t : Int) (k : Nat) (hk : s.length + 300 ≤ k) : convert_ofBytes.f k (mkB s) t = some (sumL (cBytes s t)) := by
 obtain ⟨k, rfl⟩ : ∃ j, k = j + 2 := ⟨k - 2, by omega⟩
 have hv := valid_f (mkB s) (k + 2) (by rw [ba_size]; omega) (by rw [ba_size]; omega)
 simp only [convert_ofBytes.f, convert_ofBytes.c, hv, ba_data, os, ofs]
 unfold cBytes
 have S : ¬ t = 5 → convert_ofBytes.s0 (k + 2) (mkB s) t false = some (sumL (if s.length ≠ 8 then .no 6 else if t = 3 then .ok t 0 (canon (numB s)) [] else .ok t (sgn (numB s)) 0 [])) := by
  intro t5
  simp only [convert_ofBytes.s0, convert_ofBytes.s0c, cond_false, beq_eq_false_iff_ne.2 t5, ba_size, ref_eq, os, ofs]
  by_cases c : s.length = 8
  ·have e : ((s.length : Int) != 8) = false := by rw [bne_eq_false_iff_eq]; omega
   have := ofbytes_s2 s c t 8 0 0 rfl (by simp) k (by omega)
   rw [e, if_neg (by simpa using c)]
   simp only [cond_false, convert_ofBytes.s1, convert_ofBytes.s1c, List.length_map, ofs]
   rw [List.drop_zero, List.take_of_length_le (by omega)] at this
   exact this
  ·have e : ((s.length : Int) != 8) = true := by rw [bne_iff_ne]; omega
   rw [e, if_pos c]; rfl
 by_cases t5 : t = 5
 ·subst t5
  rw [if_pos rfl]
  simp only [beq_self_eq_true, cond_true, convert_ofBytes.s0, convert_ofBytes.s0c, ref_eq, giv_eq, os]
  cases validU s <;> rfl
 ·rw [if_neg t5, beq_eq_false_iff_ne.2 t5, cond_false]
  exact S t5
theorem lbeq (l m : List UInt8) : (l == m) = decide (l = m) := by rw [Bool.eq_iff_iff, beq_iff_eq, decide_eq_true_eq]
theorem oftext_eq (s : List UInt8) (hs : s.length ≤ 100000) (t : Int) (k : Nat) (hk : 400 ≤ k) : convert_ofText.f k (mkB s) t = some (sumR (cText s t)) := by
 obtain ⟨k, rfl⟩ : ∃ j, k = j + 3 := ⟨k - 3, by omega⟩
 have nb := number_eq' s (by omega) (k + 3) (by omega)
 simp only [convert_ofText.f, convert_ofText.c, nb, ref_eq, giv_eq, os, ofs]
 unfold cText
 by_cases t4 : t = 4
 ·subst t4; rfl
 ·simp only [t4, beq_eq_false_iff_ne.2 t4, cond_false, if_false]
  by_cases t1 : t = 1
  ·subst t1
   have w0 : IntKind.wrap IntKind.i64 ((0 : Int) + 1) = 1 := by decide
   have w1 : IntKind.wrap IntKind.i64 ((1 : Int) + 1) = 2 := by decide
   have g0 : (0 : Int) < 2 := by omega
   have g1 : (1 : Int) < 2 := by omega
   have g2 : ¬ (2 : Int) < 2 := by omega
   have g3 : (0 : Int) ≤ 0 := by omega
   have g4 : (0 : Int) ≤ 1 := by omega
   have g5 : ¬ (1 : Int) = 0 := by omega
   simp only [beq_self_eq_true, cond_true, if_true, convert_ofText.s0, convert_ofText.s0c, g0, g1, g2, g3, g4, g5, w0, w1, decide_true, decide_false, Bool.and_self, cond_false, ba_toList, lbeq, giv_eq, ref_eq, os, ofs]
   by_cases c0 : s = tFalse
   ·rw [if_pos c0, decide_eq_true c0.symm]; rfl
   ·rw [if_neg c0, decide_eq_false (fun q => c0 q.symm)]
    by_cases c1 : s = tTrue
    ·rw [if_pos c1, decide_eq_true c1.symm]; rfl
    ·rw [if_neg c1, decide_eq_false (fun q => c1 q.symm)]; rfl
  ·simp only [t1, beq_eq_false_iff_ne.2 t1, cond_false, if_false]
   by_cases c : (numL s).2 = 0
   ·rw [if_pos c, c]; rfl
   ·rw [if_neg c, bne_iff_ne.2 c]; rfl
theorem to_eq {a0 a1 t : Int} (h0 : -9223372036854775808 ≤ a1) (h1 : a1 ≤ 9223372036854775807) {n : Nat} (hn : n < 18446744073709551616) (s : List UInt8) (hs : s.length ≤ 100000) (k : Nat) (hk : s.length + 1000 ≤ k) :
  convert_To.f k a0 a1 (n : Int) (mkB s) t = some (encC (toC a0 a1 n s t)) := by
 obtain ⟨k, rfl⟩ : ∃ j, k = j + 2 := ⟨k - 2, by omega⟩
 simp only [convert_To.f, convert_To.c, vcheck_eq (show 120 ≤ k + 2 by omega), ref_eq, giv_eq, os, ofs]
 unfold toC
 by_cases c : checkS a0 a1 n (mkB s) = 0
 case neg => rw [if_pos c, bne_iff_ne.2 c]; rfl
 rw [if_neg (by simpa using c), c, bne_self_eq_false, cond_false]
 obtain ⟨⟨p0, p5⟩, ⟨f1, f2, f3⟩, pb, _⟩ := check_0.1 c
 have S0 : ∀ b : Bool, (b = true ↔ t < 1 ∨ 5 < t) → convert_To.s0 (k + 2) t b a0 a1 (n : Int) (mkB s) 0 0 0 nilB 5 = some (encC (if t < 1 ∨ 5 < t then .no 5 else if a0 = 0 ∨ a0 = t then .ok a0 a1 n s
   else if canB a0 t = false then .no 5 else if a0 = 1 then cBool a1 t else if a0 = 2 then cInt a1 t else if a0 = 3 then cReal n t else if a0 = 4 then cBytes s t else cText s t)) := by
  intro b hb
  cases b
  ·have hn1 : ¬ (t < 1 ∨ 5 < t) := fun q => by simpa using hb.2 q
   rw [if_neg hn1]
   have S1 : ∀ b : Bool, (b = true ↔ a0 = 0 ∨ a0 = t) → convert_To.s1 (k + 1) t b a0 a1 (n : Int) (mkB s) 0 0 0 nilB 5 = some (encC (if a0 = 0 ∨ a0 = t then .ok a0 a1 n s
     else if canB a0 t = false then .no 5 else if a0 = 1 then cBool a1 t else if a0 = 2 then cInt a1 t else if a0 = 3 then cReal n t else if a0 = 4 then cBytes s t else cText s t)) := by
    intro b hb
    cases b
    ·have hn2 : ¬ (a0 = 0 ∨ a0 = t) := fun q => by simpa using hb.2 q
     rw [if_neg hn2]
     simp only [convert_To.s1, convert_To.s1c, cond_false, can_eq a0 t k (by omega), os]
     cases hc : canB a0 t
     ·rfl
     ·simp only [Bool.not_true, cond_false, Bool.true_eq_false, if_false]
      by_cases k1 : a0 = 1
      ·subst k1
       simp only [beq_self_eq_true, cond_true, if_true, ofbool_eq (t := t) (pb rfl) k (by omega), os]
       cases cBool a1 t <;> rfl
      ·simp only [beq_eq_false_iff_ne.2 k1, k1, cond_false, if_false]
       by_cases k2 : a0 = 2
       ·subst k2
        simp only [beq_self_eq_true, cond_true, if_true, ofint_eq (t := t) h0 h1 k (by omega), os]
        cases cInt a1 t <;> rfl
       ·simp only [beq_eq_false_iff_ne.2 k2, k2, cond_false, if_false]
        by_cases k3 : a0 = 3
        ·subst k3
         simp only [beq_self_eq_true, cond_true, if_true, ofreal_eq (t := t) hn k (by omega), os]
         cases cReal n t <;> rfl
        ·simp only [beq_eq_false_iff_ne.2 k3, k3, cond_false, if_false]
         by_cases k4 : a0 = 4
         ·subst k4
          simp only [beq_self_eq_true, cond_true, if_true, ofbytes_eq s hs t k (by omega), os]
          cases cBytes s t <;> rfl
         ·simp only [beq_eq_false_iff_ne.2 k4, k4, cond_false, if_false, oftext_eq s hs t k (by omega), os]
          cases cText s t <;> rfl
    ·rw [if_pos (hb.1 rfl)]
     simp only [convert_To.s1, convert_To.s1c, cond_true, giv_eq, giv1_eq, os]; rfl
   simp only [convert_To.s0, convert_To.s0c, cond_false, ofs]
   by_cases z : a0 = 0
   ·rw [show (a0 == 0) = true from beq_iff_eq.2 z]; exact S1 true (by simp [z])
   ·rw [show (a0 == 0) = false from beq_eq_false_iff_ne.2 z]; exact S1 _ (by rw [beq_iff_eq]; omega)
  ·rw [if_pos (hb.1 rfl)]
   simp only [convert_To.s0, convert_To.s0c, cond_true, ref1_eq, os]; rfl
 by_cases q : t < 1
 ·rw [decide_eq_true q]; exact S0 true (by simp [q])
 ·rw [decide_eq_false q]; exact S0 _ (by rw [decide_eq_true_iff]; omega)
end Go.Proofs.YtijjlpgcpdapnaaGreatDoor.Aev
