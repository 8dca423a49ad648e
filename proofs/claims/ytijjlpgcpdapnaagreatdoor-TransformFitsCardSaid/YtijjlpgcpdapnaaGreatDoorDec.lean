import Derived.Test.YtijjlpgcpdapnaaGreatDoorF4
import Derived.Test.YtijjlpgcpdapnaaGreatDoorF5
import Derived.Test.YtijjlpgcpdapnaaGreatDoorBa

/- Numbers in decimal: the program's and the document's ways. -/
namespace Go.Proofs.YtijjlpgcpdapnaaGreatDoor.Aev
open Go
set_option linter.unusedVariables false
set_option linter.unusedSimpArgs false
set_option maxRecDepth 100000
def dg (m : Nat) : UInt8 := UInt8.ofNat (48 + m % 10)
def decL (m : Nat) : List UInt8 := if h : m < 10 then [dg m] else decL (m / 10) ++ [dg m]
termination_by m
decreasing_by omega
theorem decL_lt {m : Nat} (h : m < 10) : decL m = [dg m] := by rw [decL, dif_pos h]
theorem decL_ge {m : Nat} (h : ¬ m < 10) : decL m = decL (m / 10) ++ [dg m] := by rw [decL, dif_neg h]
theorem decL_len : ∀ (j m : Nat), m < 10 ^ (j + 1) → (decL m).length ≤ j + 1 := by
 intro j
 induction j with
 | zero => intro m h; rw [decL_lt (by omega)]; simp
 | succ j ih =>
  intro m h
  by_cases c : m < 10
  ·rw [decL_lt c]; simp
  ·rw [decL_ge c, List.length_append]
   have := ih (m / 10) (by rw [Nat.pow_succ] at h; omega)
   simp; omega
theorem dg_nat (m : Nat) : (dg m).toNat = 48 + m % 10 := by unfold dg; rw [UInt8.toNat_ofNat']; omega
def digL (n : Int) : List UInt8 := if n < 0 then 45 :: decL n.natAbs else decL n.natAbs
def decZ (m : Nat) : List UInt8 := if m = 0 then [] else decL m
theorem decZ_step {m : Nat} : decL m = decZ (m / 10) ++ [dg m] := by
 unfold decZ
 by_cases c : m < 10
 ·rw [decL_lt c, if_pos (by omega)]; rfl
 ·rw [decL_ge c, if_neg (by omega)]
theorem dig_wrap (m : Nat) (h : m < 18446744073709551616) : IntKind.wrap IntKind.u8 (IntKind.wrap IntKind.u64 ((48 : Int) + Int.tmod (m : Int) 10)) = ((48 + m % 10 : Nat) : Int) := by
 rw [Int.tmod_eq_emod_of_nonneg (by omega), u64w (by omega) (by omega), u8w (by omega) (by omega)]; omega
theorem div_wrap (m : Nat) (h : m < 18446744073709551616) : IntKind.wrap IntKind.u64 (Int.tdiv (m : Int) 10) = ((m / 10 : Nat) : Int) := by
 rw [Int.tdiv_eq_ediv_of_nonneg (by omega), u64w (by omega) (by omega)]; omega
theorem b8_dg (m : Nat) : b8 ((48 + m % 10 : Nat) : Int) = dg m := by unfold b8 dg; congr 1
def sgL (n : Int) : List UInt8 := if n < 0 then [45] else []
theorem set_drop (xs : List Int) (i : Nat) (v : Int) (h : i < xs.length) : (xs.set i v).drop i = v :: xs.drop (i + 1) := by
 rw [List.drop_eq_getElem_cons (by simpa using h), List.getElem_set_self, List.drop_set]; simp
theorem dig_s1 (n : Int) (s : Nat) (hs : s = if n < 0 then 1 else 0) : ∀ (j m i : Nat) (xs : List Int), m < 10 ^ j → j + s ≤ i → i ≤ 19 → m < 18446744073709551616 → xs.length = 20 → ∀ k, 3 * j + 3 < k →
  convert_Digits.s1 k n (m : Int) (i : Int) xs = some (ByteArray.mk (List.toArray (sgL n ++ decZ m ++ (xs.drop i).map b8))) := by
 intro j
 induction j with
 | zero =>
  intro m i xs hm hi hi2 hm2 hx k hk
  obtain ⟨k, rfl⟩ : ∃ j, k = j + 2 := ⟨k - 2, by omega⟩
  obtain rfl : m = 0 := by simpa using hm
  have e20 : ((i : Int) == 20) = false := by rw [beq_eq_false_iff_ne]; omega
  have e0 : ¬ ((0 : Nat) : Int) > 0 := by omega
  simp only [convert_Digits.s1, convert_Digits.s1c, convert_Digits.s2, convert_Digits.s2c, e20, e0, decide_false, cond_false, ofs]
  by_cases c : n < 0
  ·rw [if_pos c] at hs; subst hs
   have w : IntKind.wrap IntKind.i64 ((i : Int) - 1) = ((i - 1 : Nat) : Int) := by rw [i64w (by omega) (by omega)]; omega
   have g0 : (0 : Int) ≤ ((i - 1 : Nat) : Int) := by omega
   have g1 : ((i - 1 : Nat) : Int) < 20 := by omega
   have g2 : ((i - 1 : Nat) : Int) ≤ 20 := by omega
   simp only [c, w, g0, g1, g2, decide_true, Bool.and_self, cond_true, Int.toNat_natCast]
   congr 1
   rw [ba_inj, set_drop xs (i - 1) 45 (by omega), show i - 1 + 1 = i by omega, List.take_of_length_le (by simp; omega), sgL, if_pos c]
   rfl
  ·rw [if_neg c] at hs; subst hs
   have g0 : (0 : Int) ≤ (i : Int) := by omega
   have g2 : (i : Int) ≤ 20 := by omega
   simp only [c, g0, g2, decide_true, decide_false, Bool.and_self, cond_true, cond_false, Int.toNat_natCast]
   congr 1
   rw [ba_inj, List.take_of_length_le (by simp; omega), sgL, if_neg c]
   rfl
 | succ j ih =>
  intro m i xs hm hi hi2 hm2 hx k hk
  by_cases c0 : m = 0
  ·subst c0
   have := ih 0 i xs (Nat.pow_pos (by omega)) (by omega) hi2 (by omega) hx k (by omega)
   exact this
  ·obtain ⟨k, rfl⟩ : ∃ j, k = j + 3 := ⟨k - 3, by omega⟩
   have e20 : ((i : Int) == 20) = false := by rw [beq_eq_false_iff_ne]; omega
   have e0 : (m : Int) > 0 := by omega
   have w : IntKind.wrap IntKind.i64 ((i : Int) - 1) = ((i - 1 : Nat) : Int) := by rw [i64w (by omega) (by omega)]; omega
   have g0 : (0 : Int) ≤ ((i - 1 : Nat) : Int) := by omega
   have g1 : ((i - 1 : Nat) : Int) < 20 := by omega
   have hm10 : m / 10 < 10 ^ j := by rw [Nat.pow_succ] at hm; omega
   have := ih (m / 10) (i - 1) (xs.set (i - 1) ((48 + m % 10 : Nat) : Int)) hm10 (by omega) (by omega) (by omega) (by simpa using hx) k (by omega)
   simp only [convert_Digits.s1, convert_Digits.s1c, convert_Digits.s2, convert_Digits.s2c, convert_Digits.s3, convert_Digits.s3c, e20, e0, w, g0, g1, dig_wrap m hm2, div_wrap m hm2, Int.toNat_natCast, decide_true, Bool.and_self, cond_true, cond_false, ofs]
   refine this.trans ?_
   rw [set_drop xs (i - 1) _ (by omega), show i - 1 + 1 = i by omega]
   congr 1
   rw [ba_inj]
   have hz : decZ m = decZ (m / 10) ++ [dg m] := by rw [← decZ_step]; unfold decZ; rw [if_neg c0]
   rw [hz, List.map_cons, b8_dg]
   simp only [List.append_assoc, List.cons_append, List.nil_append]
theorem digits_eq (n : Int) (h0 : -9223372036854775808 ≤ n) (h1 : n ≤ 9223372036854775807) (k : Nat) (hk : 100 ≤ k) : convert_Digits.f k n = some (ByteArray.mk (List.toArray (digL n))) := by
 obtain ⟨k, rfl⟩ : ∃ j, k = j + 4 := ⟨k - 4, by omega⟩
 have hm2 : n.natAbs < 18446744073709551616 := by omega
 have J : convert_Digits.s0 (k + 4) n (n.natAbs : Int) = some (ByteArray.mk (List.toArray (digL n))) := by
  have w : IntKind.wrap IntKind.i64 ((20 : Int) - 1) = ((19 : Nat) : Int) := by decide
  have g0 : (0 : Int) ≤ ((19 : Nat) : Int) := by omega
  have g1 : ((19 : Nat) : Int) < 20 := by omega
  have := dig_s1 n (if n < 0 then 1 else 0) rfl 18 (n.natAbs / 10) 19 ([(0 : Int), (0 : Int), (0 : Int), (0 : Int), (0 : Int), (0 : Int), (0 : Int), (0 : Int), (0 : Int), (0 : Int), (0 : Int), (0 : Int), (0 : Int), (0 : Int), (0 : Int), (0 : Int), (0 : Int), (0 : Int), (0 : Int), (0 : Int)].set 19 ((48 + n.natAbs % 10 : Nat) : Int)) (by omega) (by split <;> omega) (Nat.le_refl _) (by omega) rfl k (by omega)
  simp only [convert_Digits.s0, convert_Digits.s0c, convert_Digits.s1, convert_Digits.s1c, convert_Digits.s2, convert_Digits.s2c, convert_Digits.s3, convert_Digits.s3c, w, g0, g1, dig_wrap n.natAbs hm2, div_wrap n.natAbs hm2, Int.toNat_natCast, beq_self_eq_true, decide_true, Bool.and_self, cond_true, ofs]
  refine this.trans ?_
  congr 1
  rw [ba_inj]
  show sgL n ++ decZ (n.natAbs / 10) ++ [b8 ((48 + n.natAbs % 10 : Nat) : Int)] = _
  rw [b8_dg, List.append_assoc, ← decZ_step]
  unfold sgL digL
  split <;> rfl
 simp only [convert_Digits.f, convert_Digits.c, ofs]
 by_cases c : n < 0
 ·have w : IntKind.wrap IntKind.u64 ((0 : Int) - IntKind.wrap IntKind.u64 n) = (n.natAbs : Int) := by rw [u64m, u64m]; omega
  rw [decide_eq_true c, cond_true, w]; exact J
 ·have w : IntKind.wrap IntKind.u64 n = (n.natAbs : Int) := by rw [u64m]; omega
  rw [decide_eq_false c, cond_false, w]; exact J
/-! ### numbers read -/
def isDg (c : UInt8) : Prop := 48 ≤ c.toNat ∧ c.toNat ≤ 57
instance (c : UInt8) : Decidable (isDg c) := by unfold isDg; infer_instance
def valL (x : Nat) (l : List UInt8) : Nat := l.foldl (fun n c => n * 10 + (c.toNat - 48)) x
def allDg (l : List UInt8) : Bool := l.all fun c => decide (isDg c)
def wrapS (s : Bool) (m : Nat) : Int := IntKind.wrap IntKind.i64 (if s = true then -(m : Int) else (m : Int))
def numS (s : Bool) (body l : List UInt8) : Int × Int :=
 if allDg body = true then (if digL (wrapS s (valL 0 body)) = l then (wrapS s (valL 0 body), 0) else (0, 7)) else (0, 7)
def numL (l : List UInt8) : Int × Int :=
 match l with
 | [] => (0, 7)
 | c :: t => if c = 45 then (if 20 ≤ t.length then (0, 7) else numS true t l) else if 20 ≤ l.length then (0, 7) else numS false l l
theorem wrapS_in (s : Bool) (m : Nat) : -9223372036854775808 ≤ wrapS s m ∧ wrapS s m ≤ 9223372036854775807 := by
 unfold wrapS; rw [IntKind.wrap_i64]; omega
theorem num_end (v : Int) (h0 : -9223372036854775808 ≤ v) (h1 : v ≤ 9223372036854775807) (l : List UInt8) (k : Nat) (hk : 100 ≤ k) :
  ((convert_Digits.f k v).bind fun r0 => (bif (!((ByteArray.toList r0) == (ByteArray.toList (ByteArray.mk (List.toArray l))))) then (some ((0 : Int), (7 : Int))) else (some (v, (0 : Int))))) = some (if digL v = l then (v, 0) else (0, 7)) := by
 rw [digits_eq v h0 h1 k hk, os, ba_toList, ba_toList]
 by_cases h : digL v = l
 ·rw [if_pos h, h, beq_self_eq_true]; rfl
 ·rw [if_neg h, beq_eq_false_iff_ne.2 h]; rfl
theorem elem_u8' (l : List UInt8) (i : Nat) (h : i < l.length) : elem (Ty.int IntKind.u8) (l.map fun b => ((UInt8.toNat b : Nat) : Int)) (i : Int) = (l[i].toNat : Int) := by
 simp [elem, List.getD, List.getElem?_eq_getElem h]
theorem num_s2 (s : Bool) (l b : List UInt8) (hb : b.length ≤ 19) (hsl : (b.length < l.length ↔ s = true)) : ∀ (m i x : Nat), i + m = b.length → x < 10 ^ i → ∀ k, 4 * m + 110 < k →
  convert_Number.s2 k (ByteArray.mk (List.toArray l)) (ByteArray.mk (List.toArray b)) (x : Int) (b.map fun b => ((UInt8.toNat b : Nat) : Int)) (b.length : Int) (i : Int) = some (if allDg (b.drop i) = true then (if digL (wrapS s (valL x (b.drop i))) = l then (wrapS s (valL x (b.drop i)), 0) else (0, 7)) else (0, 7)) := by
 intro m
 induction m with
 | zero =>
  intro i x hi hx k hk
  obtain ⟨k, rfl⟩ : ∃ j, k = j + 1 := ⟨k - 1, by omega⟩
  have e : ¬ (i : Int) < (b.length : Int) := by omega
  rw [List.drop_eq_nil_of_le (by omega)]
  simp only [convert_Number.s2, convert_Number.s2c, ba_size, e, decide_false, cond_false]
  have ha : allDg [] = true := rfl
  have hv : valL x [] = x := rfl
  rw [if_pos ha, hv]
  obtain ⟨v0, v1⟩ := wrapS_in s x
  cases s
  ·have e2 : ¬ (b.length : Int) < (l.length : Int) := by
    have : ¬ b.length < l.length := fun q => by simpa using hsl.1 q
    omega
   rw [decide_eq_false e2]
   exact num_end _ v0 v1 l k (by omega)
  ·have e2 : (b.length : Int) < (l.length : Int) := by
    have := hsl.2 rfl
    omega
   have w : IntKind.wrap IntKind.i64 (IntKind.wrap IntKind.u64 ((0 : Int) - (x : Int))) = wrapS true x := by
    unfold wrapS; rw [IntKind.wrap_i64, IntKind.wrap_i64, u64m]; simp only [if_true]; omega
   rw [decide_eq_true e2, w]
   exact num_end _ v0 v1 l k (by omega)
 | succ m ih =>
  intro i x hi hx k hk
  obtain ⟨k, rfl⟩ : ∃ j, k = j + 4 := ⟨k - 4, by omega⟩
  have h : i < b.length := by omega
  have e0 : (0 : Int) ≤ (i : Int) := by omega
  have e1 : (i : Int) < (b.length : Int) := by omega
  have e2 : (i : Int) < ((b.map fun b => ((UInt8.toNat b : Nat) : Int)).length : Int) := by simp; omega
  have w1 : IntKind.wrap IntKind.i64 ((i : Int) + 1) = ((i + 1 : Nat) : Int) := by rw [i64w (by omega) (by omega)]; omega
  have hd : b.drop i = b[i] :: b.drop (i + 1) := List.drop_eq_getElem_cons h
  have hc := (b[i]).toNat_lt
  have hp : 10 ^ i ≤ 10 ^ 18 := Nat.pow_le_pow_right (by omega) (by omega)
  simp only [convert_Number.s2, convert_Number.s2c, e0, e1, e2, elem_u8' b i h, decide_true, Bool.and_self, cond_true, ofs, hd, allDg, List.all_cons]
  by_cases c : isDg b[i]
  ·have c' := c
   unfold isDg at c'
   have g1 : ¬ (b[i].toNat : Int) < 48 := by omega
   have g2 : ¬ (b[i].toNat : Int) > 57 := by omega
   have w2 : IntKind.wrap IntKind.u64 (IntKind.wrap IntKind.u64 ((x : Int) * 10) + IntKind.wrap IntKind.u64 (IntKind.wrap IntKind.u8 ((b[i].toNat : Int) - 48))) = ((x * 10 + (b[i].toNat - 48) : Nat) : Int) := by
    rw [u8w (by omega) (by omega), u64w (n := (x : Int) * 10) (by omega) (by omega), u64w (n := (b[i].toNat : Int) - 48) (by omega) (by omega), u64w (by omega) (by omega)]; omega
   have := ih (i + 1) (x * 10 + (b[i].toNat - 48)) (by omega) (by rw [Nat.pow_succ]; omega) k (by omega)
   rw [decide_eq_false g1, decide_eq_false g2, decide_eq_true c]
   simp only [cond_false, convert_Number.s3, convert_Number.s3c, convert_Number.s4, convert_Number.s4c, convert_Number.s5, convert_Number.s5c, w1, w2, ofs, this, Bool.true_and]
   rfl
  ·have c' := c
   unfold isDg at c'
   have stop : convert_Number.s3 (k + 3) (ByteArray.mk (List.toArray l)) (ByteArray.mk (List.toArray b)) (x : Int) (b[i].toNat : Int) (b.map fun b => ((UInt8.toNat b : Nat) : Int)) (b.length : Int) (i : Int) true = some (0, 7) := by
    simp only [convert_Number.s3, convert_Number.s3c, cond_true]
   rw [decide_eq_false c]
   simp only [Bool.false_and, Bool.false_eq_true, if_false]
   by_cases g1 : (b[i].toNat : Int) < 48
   ·rw [decide_eq_true g1]; exact stop
   ·have g2 : (b[i].toNat : Int) > 57 := by omega
    rw [decide_eq_false g1, decide_eq_true g2]; exact stop
theorem b45 (c : UInt8) : ((c.toNat : Int) == 45) = decide (c = 45) := by
 rw [Bool.eq_iff_iff, beq_iff_eq, decide_eq_true_eq]
 constructor
 ·intro h; apply UInt8.toNat_inj.1; show c.toNat = 45; omega
 ·rintro rfl; rfl
theorem number_eq' (l : List UInt8) (hl : l.length ≤ 1000000000) (k : Nat) (hk : 300 ≤ k) : convert_Number.f k (ByteArray.mk (List.toArray l)) = some (numL l) := by
 obtain ⟨k, rfl⟩ : ∃ j, k = j + 2 := ⟨k - 2, by omega⟩
 simp only [convert_Number.f, convert_Number.c, ba_toList, ba_size, ofs]
 have S1 : ∀ (s : Bool) (b : List UInt8), (b.length < l.length ↔ s = true) → convert_Number.s1 (k + 1) (ByteArray.mk (List.toArray l)) (ByteArray.mk (List.toArray b)) = some (if 20 ≤ b.length then (0, 7) else numS s b l) := by
  intro s b hb
  simp only [convert_Number.s1, convert_Number.s1c, ba_size, ofs, List.length_map]
  by_cases c : 20 ≤ b.length
  ·have : (b.length : Int) ≥ 20 := by omega
   rw [decide_eq_true this, if_pos c]; rfl
  ·have : ¬ (b.length : Int) ≥ 20 := by omega
   rw [decide_eq_false this, if_neg c]
   exact num_s2 s l b (by omega) hb b.length 0 0 (by omega) (by simp) k (by omega)
 cases l with
 | nil =>
  have e : (!(([] : List UInt8) == [])) = false := rfl
  have := S1 false [] (by simp)
  simp only [e, cond_false, convert_Number.s0, convert_Number.s0c, ofs]
  refine this.trans ?_
  have : digL (wrapS false (valL 0 [])) = [48] := by decide +kernel
  simp only [numL, List.length_nil, numS, this]; rfl
 | cons c t =>
  have e : (!((c :: t) == ([] : List UInt8))) = true := rfl
  have l0 : (0 : Int) < (((c :: t).length : Nat) : Int) := by rw [List.length_cons]; omega
  simp only [e, l0, cond_true, decide_true, Bool.and_self, ba_bt0, b45]
  by_cases c1 : c = 45
  ·have g1 : (1 : Int) ≤ (((c :: t).length : Nat) : Int) := by rw [List.length_cons]; omega
   have g2 : (((c :: t).length : Nat) : Int) ≤ (((c :: t).length : Nat) : Int) := Int.le_refl _
   have := S1 true t (by simp)
   rw [decide_eq_true c1]
   simp only [convert_Number.s0, convert_Number.s0c, cond_true, ba_size, g1, g2, decide_true, Bool.and_self, ba_dropl, List.drop_succ_cons, List.drop_zero, ofs]
   refine this.trans ?_
   simp only [numL, c1, if_true]
  ·have := S1 false (c :: t) (by simp)
   rw [decide_eq_false c1]
   simp only [convert_Number.s0, convert_Number.s0c, cond_false, ofs]
   refine this.trans ?_
   simp only [numL, c1, if_false]
theorem digL_len (v : Int) (h0 : -9223372036854775808 ≤ v) (h1 : v ≤ 9223372036854775807) : (digL v).length ≤ 20 ∧ (0 ≤ v → (digL v).length ≤ 19) := by
 have := decL_len 18 v.natAbs (by omega)
 unfold digL
 split
 ·simp; omega
 ·omega
/-! ### what is written is read -/
end Go.Proofs.YtijjlpgcpdapnaaGreatDoor.Aev
