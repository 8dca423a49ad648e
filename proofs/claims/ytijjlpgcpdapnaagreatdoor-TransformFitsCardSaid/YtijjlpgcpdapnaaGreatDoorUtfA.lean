import Derived.Test.YtijjlpgcpdapnaaGreatDoorF1
import Derived.Test.YtijjlpgcpdapnaaGreatDoorPl
import Derived.Laws.BitsAllLaws

/- Package utf as plain functions: how a character is read, all characters of a text; the document's, too. -/
namespace Go.Proofs.YtijjlpgcpdapnaaGreatDoor.Aev
open Go
set_option linter.unusedVariables false
set_option linter.unusedSimpArgs false
set_option maxRecDepth 100000
theorem wraps_i64 (n : Int) (h0 : 0 ≤ n) (h1 : n < 2 ^ 63) : IntKind.i64.wrap n = n := by
 have : (2 : Int) ^ 63 = 9223372036854775808 := by decide
 simp [IntKind.wrap, IntKind.bits, IntKind.signed]; omega
def firstS (c : Nat) : Nat × Nat × Nat × Nat :=
 if c < 128 then (1, c, 0, 0) else if c < 194 ∨ 244 < c then (0, 0, 0, 0) else if c < 224 then (2, c % 32, 128, 191) else if c = 224 then (3, 0, 160, 191) else
  if c = 237 then (3, 13, 128, 159) else if c < 240 then (3, c % 16, 128, 191) else if c = 240 then (4, 0, 144, 191) else if c = 244 then (4, 4, 128, 143) else (4, c % 8, 128, 191)
def contS (w : Nat) : Nat → Nat → Nat → Nat → List UInt8 → Int × Int × Int
 | 0, r, _, _, _ => ((r : Int), (w : Int), 0)
 | _ + 1, _, _, _, [] => (0, 0, 3)
 | n + 1, r, lo, hi, c :: t => if c.toNat < lo ∨ hi < c.toNat then (0, 0, 7) else contS w n (r * 64 + c.toNat % 64) 128 191 t
def nextS : List UInt8 → Int × Int × Int
 | [] => (0, 0, 3)
 | c :: t => if (firstS c.toNat).1 = 0 then (0, 0, 7) else contS (firstS c.toNat).1 ((firstS c.toNat).1 - 1) (firstS c.toNat).2.1 (firstS c.toNat).2.2.1 (firstS c.toNat).2.2.2 t
theorem first_range' : ∀ c : Fin 256, (firstS c.val).1 ≤ 4 ∧ (firstS c.val).2.1 < 128 ∧ ((firstS c.val).1 = 0 ∨ (firstS c.val).1 = 1 ∧ c.val < 128 ∨ 2 ≤ (firstS c.val).1 ∧ (firstS c.val).2.1 < 32) := by decide +kernel
theorem first_range (c : Nat) (h : c < 256) : (firstS c).1 ≤ 4 ∧ (firstS c).2.1 < 128 ∧ ((firstS c).1 = 0 ∨ (firstS c).1 = 1 ∧ c < 128 ∨ 2 ≤ (firstS c).1 ∧ (firstS c).2.1 < 32) := first_range' ⟨c, h⟩
theorem first_eq' : ∀ c : Fin 256, utf_first.f 1 (c.val : Int) = some (((firstS c.val).1 : Int), ((firstS c.val).2.1 : Int), ((firstS c.val).2.2.1 : Int), ((firstS c.val).2.2.2 : Int)) := by decide +kernel
theorem first_fuel (k : Nat) (c : Int) : utf_first.f (k + 1) c = utf_first.f 1 c := by
 simp only [utf_first.f, utf_first.c, utf_first.s0, utf_first.s0c]
theorem first_eq {c : Nat} (h : c < 256) (k : Nat) : utf_first.f (k + 1) (c : Int) = some (((firstS c).1 : Int), ((firstS c).2.1 : Int), ((firstS c).2.2.1 : Int), ((firstS c).2.2.2 : Int)) := by
 rw [first_fuel]; exact first_eq' ⟨c, h⟩
theorem first_and (j m : Nat) (hm : (m : Int) = 2 ^ j - 1) (hj : j ≤ 8) {c : Nat} (h : c < 256) : Go.bits .and .u8 (c : Int) (m : Int) = ((c % 2 ^ j : Nat) : Int) := by
 have := Go.bits_mask .u8 8 (by decide) Go.wraps_u8 j hj (c : Int) (by omega) (by omega)
 rw [hm, this, Int.natCast_emod, Int.natCast_pow]; rfl
theorem and63_u8 (c : UInt8) : IntKind.wrap IntKind.u8 ((BitVec.toNat ((BitVec.ofInt (8 : Nat) (c.toNat : Int)) &&& (BitVec.ofInt (8 : Nat) (63 : Int)))) : Int) = ((c.toNat % 64 : Nat) : Int) := first_and 6 63 (by decide) (by omega) c.toNat_lt
theorem shift_or {r c : Nat} (hr : r < 1099511627776) (hc : c < 64) : IntKind.wrap IntKind.i64 ((BitVec.toNat ((BitVec.ofInt (64 : Nat) (IntKind.wrap IntKind.i64 ((r : Int) * (64 : Int)))) ||| (BitVec.ofInt (64 : Nat) (IntKind.wrap IntKind.i64 (c : Int))))) : Int) = ((r * 64 + c : Nat) : Int) := by
 rw [i64w (n := (r : Int) * 64) (by omega) (by omega), i64w (n := (c : Int)) (by omega) (by omega)]
 have := Go.bits_join .i64 63 (by decide) wraps_i64 6 ((r : Int) * 64) (c : Int) (by omega) (by omega) (by omega) (by omega) (by omega) (by omega)
 refine Eq.trans this ?_
 omega
theorem next_s0 (s : ByteArray) (w : Nat) (hw : w ≤ 4) (hs : s.size ≤ 4611686018427387904) : ∀ (n i r lo hi k : Nat), i + n = w → (r + 1) * 64 ^ n ≤ 1099511627776 → 4 * n < k → i ≤ s.size →
  utf_Next.s0 k s w r lo hi 0 i = some (contS w n r lo hi (s.data.toList.drop i)) := by
 intro n
 induction n with
 | zero =>
  intro i r lo hi k hi' hr hk _
  obtain ⟨k, rfl⟩ : ∃ j, k = j + 1 := ⟨k - 1, by omega⟩
  have e : ¬ (i : Int) < (w : Int) := by omega
  simp only [utf_Next.s0, utf_Next.s0c, cond_true, cond_false, if_b, decide_eq_true_eq, Bool.and_eq_true, Bool.or_eq_true, beq_iff_eq, bne_iff_ne, ne_eq, Bool.not_eq_true', Bool.not_eq_false', Bool.true_and, Bool.and_true, Bool.false_eq_true, if_false, if_true, true_and, and_true, os, Option.bind_none, ofs, beq_eq_false_iff_ne, decide_eq_false_iff_not, toList_iff, contS, e, not_true_eq_false]
 | succ n ih =>
  intro i r lo hi k hi' hr hk hsz
  obtain ⟨k, rfl⟩ : ∃ j, k = j + 4 := ⟨k - 4, by omega⟩
  have hp : 0 < 64 ^ n := Nat.pow_pos (by omega)
  have hr2 : r < 1099511627776 := by
   have h1 : 1 ≤ 64 ^ (n + 1) := Nat.pow_pos (by omega)
   have : (r + 1) * 1 ≤ (r + 1) * 64 ^ (n + 1) := Nat.mul_le_mul_left _ h1
   omega
  have e0 : (i : Int) < (w : Int) := by omega
  by_cases c : s.size ≤ i
  ·have e : (i : Int) ≥ (s.size : Int) := by omega
   rw [List.drop_eq_nil_of_le (by rw [← size_eq]; exact c)]
   simp only [utf_Next.s0, utf_Next.s0c, cond_true, cond_false, if_b, decide_eq_true_eq, Bool.and_eq_true, Bool.or_eq_true, beq_iff_eq, bne_iff_ne, ne_eq, Bool.not_eq_true', Bool.not_eq_false', Bool.true_and, Bool.and_true, Bool.false_eq_true, if_false, if_true, true_and, and_true, os, Option.bind_none, ofs, beq_eq_false_iff_ne, decide_eq_false_iff_not, toList_iff, contS, e0, e]
  ·have hl : i < s.data.toList.length := by rw [← size_eq]; omega
   have hd : s.data.toList.drop i = s.data.toList[i] :: s.data.toList.drop (i + 1) := List.drop_eq_getElem_cons hl
   have hb : bt s (i : Int) = ((s.data.toList[i]).toNat : Int) := bt_nat s i hl
   have e : ¬ (i : Int) ≥ (s.size : Int) := by omega
   have e2 : (0 : Int) ≤ (i : Int) ∧ (i : Int) < (s.size : Int) := by omega
   rw [hd]
   generalize s.data.toList[i] = b at hb
   have e3 : IntKind.wrap IntKind.i64 ((i : Int) + 1) = ((i + 1 : Nat) : Int) := by rw [i64w (by omega) (by omega)]; omega
   have hnx := ih (i + 1) (r * 64 + b.toNat % 64) 128 191 k (by omega) (by
    have h1 : (r * 64 + b.toNat % 64 + 1) * 64 ^ n ≤ ((r + 1) * 64) * 64 ^ n := Nat.mul_le_mul_right _ (by omega)
    have h2 : 64 * 64 ^ n = 64 ^ (n + 1) := by rw [Nat.pow_succ, Nat.mul_comm]
    rw [Nat.mul_assoc, h2] at h1
    omega) (by omega) (by omega)
   simp only [utf_Next.s0, utf_Next.s0c, utf_Next.s1, utf_Next.s1c, utf_Next.s2, utf_Next.s2c, utf_Next.s3, utf_Next.s3c, cond_true, cond_false, if_b, decide_eq_true_eq, Bool.and_eq_true, Bool.or_eq_true, beq_iff_eq, bne_iff_ne, ne_eq, Bool.not_eq_true', Bool.not_eq_false', Bool.true_and, Bool.and_true, Bool.false_eq_true, if_false, if_true, true_and, and_true, os, Option.bind_none, ofs, beq_eq_false_iff_ne, decide_eq_false_iff_not, toList_iff, contS, e0, e, e2, hb, and63_u8, shift_or hr2 (Nat.mod_lt b.toNat (show 0 < 64 by omega)), e3]
   by_cases d : b.toNat < lo
   ·rw [if_pos (show (b.toNat : Int) < (lo : Int) by omega), if_pos (.inl d)]
   ·rw [if_neg (show ¬ (b.toNat : Int) < (lo : Int) by omega)]
    by_cases f : hi < b.toNat
    ·rw [if_pos (show (b.toNat : Int) > (hi : Int) by omega), if_pos (.inr f)]
    ·rw [if_neg (show ¬ (b.toNat : Int) > (hi : Int) by omega), if_neg (by omega)]
     exact hnx
theorem next_eq {s : ByteArray} {k : Nat} (hs : s.size ≤ 4611686018427387904) (hk : 20 ≤ k) : utf_Next.f k s = some (nextS s.data.toList) := by
 obtain ⟨k, rfl⟩ : ∃ j, k = j + 1 := ⟨k - 1, by omega⟩
 simp only [utf_Next.f, utf_Next.c, cond_true, cond_false, if_b, decide_eq_true_eq, Bool.and_eq_true, Bool.or_eq_true, beq_iff_eq, bne_iff_ne, ne_eq, Bool.not_eq_true', Bool.not_eq_false', Bool.true_and, Bool.and_true, Bool.false_eq_true, if_false, if_true, true_and, and_true, os, Option.bind_none, ofs, beq_eq_false_iff_ne, decide_eq_false_iff_not, toList_iff]
 cases hl : s.data.toList with
 | nil => rw [if_pos (data_nil.1 hl)]; rfl
 | cons c t =>
  have h0 : 0 < s.size := by rw [size_eq, hl]; simp
  have hb : bt s 0 = (c.toNat : Int) := by
   have := bt_nat s 0 (by rw [← size_eq]; exact h0)
   simp only [hl] at this; simpa using this
  obtain ⟨f1, f2, f3⟩ := first_range c.toNat c.toNat_lt
  rw [if_neg (by intro e; rw [e] at hl; simp at hl), if_pos (by omega), hb, first_eq c.toNat_lt, os, nextS]
  by_cases z : (firstS c.toNat).1 = 0
  ·rw [if_pos (show ((firstS c.toNat).1 : Int) = 0 by omega), if_pos z]
  ·rw [if_neg (show ¬ ((firstS c.toNat).1 : Int) = 0 by omega), if_neg z]
   have := next_s0 s (firstS c.toNat).1 f1 hs ((firstS c.toNat).1 - 1) 1 (firstS c.toNat).2.1 (firstS c.toNat).2.2.1 (firstS c.toNat).2.2.2 (k + 1) (by omega) ?_ (by omega) (by omega)
   ·rw [hl] at this
    exact this
   ·have : 64 ^ ((firstS c.toNat).1 - 1) ≤ 64 ^ 3 := Nat.pow_le_pow_right (by omega) (by omega)
    calc ((firstS c.toNat).2.1 + 1) * 64 ^ ((firstS c.toNat).1 - 1) ≤ 128 * 64 ^ 3 := Nat.mul_le_mul (by omega) this
     _ ≤ 1099511627776 := by omega
end Go.Proofs.YtijjlpgcpdapnaaGreatDoor.Aev
