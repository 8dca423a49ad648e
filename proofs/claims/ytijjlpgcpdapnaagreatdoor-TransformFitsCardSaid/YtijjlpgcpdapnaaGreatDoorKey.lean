import Derived.Test.YtijjlpgcpdapnaaGreatDoorF9
import Derived.Test.YtijjlpgcpdapnaaGreatDoorVals
import Derived.Test.YtijjlpgcpdapnaaGreatDoorBa
import Derived.Test.YtijjlpgcpdapnaaGreatDoorF10
import Derived.Test.YtijjlpgcpdapnaaGreatDoorEsc

/- The keys of reals. -/
namespace Go.Proofs.YtijjlpgcpdapnaaGreatDoor.Aev
open Go
set_option linter.unusedVariables false
set_option linter.unusedSimpArgs false
set_option maxRecDepth 100000
def keyU (n : Nat) : Nat := if canon n < 9223372036854775808 then canon n + 9223372036854775808 else 18446744073709551615 - canon n
theorem key_eq {n : Nat} (h : n < 18446744073709551616) (k : Nat) : reals_Key.f k (n : Int) = some (keyU n : Int) := by
 have hc := canon_lt h
 simp only [reals_Key.f, reals_Key.c, canon_eq, os, aTop hc, xNot hc]
 unfold keyU
 by_cases c : canon n < 9223372036854775808
 ·rw [if_pos c, oTop c, if_pos c]; rfl
 ·rw [if_neg c, if_neg c]; rfl
end Go.Proofs.YtijjlpgcpdapnaaGreatDoor.Aev

/- Numbers in eight bytes. -/

namespace Go.Proofs.YtijjlpgcpdapnaaGreatDoor.Aev
open Go
set_option linter.unusedVariables false
set_option linter.unusedSimpArgs false
set_option maxRecDepth 100000
def byteAt (n i : Nat) : Int := ((n / 2 ^ i % 256 : Nat) : Int)
def eightI (n : Nat) : List Int := [byteAt n 56, byteAt n 48, byteAt n 40, byteAt n 32, byteAt n 24, byteAt n 16, byteAt n 8, byteAt n 0]
theorem byteAt_eq (n i : Nat) (hi : i ≤ 64) : IntKind.wrap IntKind.u8 (Int.fdiv (n : Int) ((2 : Int) ^ (Min.min (Int.toNat (i : Int)) (64 : Nat)))) = byteAt n i := by
 have e0 : Min.min (Int.toNat (i : Int)) 64 = i := by rw [Int.toNat_natCast]; omega
 have hp : (0 : Int) ≤ (2 : Int) ^ i := Int.pow_nonneg (by omega)
 rw [e0, u8m, Int.fdiv_eq_ediv_of_nonneg _ hp, byteAt, Int.natCast_emod, Int.natCast_ediv, Int.natCast_pow]; rfl
theorem eight_len (m : Nat) : ((eightI m).map b8).length = 8 := rfl
end Go.Proofs.YtijjlpgcpdapnaaGreatDoor.Aev

/- Values as bytes that keep their order: the program's and the document's ways, as one list of bytes. -/
namespace Go.Proofs.YtijjlpgcpdapnaaGreatDoor.Aev
open Go
set_option linter.unusedVariables false
set_option linter.unusedSimpArgs false
set_option maxRecDepth 100000
theorem put8_step (n i : Nat) (hi : i ≤ 56) (xs : List Int) (hx : xs.length + 1 ≤ 35184372088832) (k : Nat) : keycode_put8.s0 (k + 1) (n : Int) (i : Int) xs = keycode_put8.s0 k (n : Int) ((i : Int) - 8) (xs ++ [byteAt n i]) := by
 have e1 : (i : Int) ≥ 0 := by omega
 have e2 : (0 : Int) ≤ (i : Int) := by omega
 have e3 : (xs.length + 1) * 1 ≤ 35184372088832 := by omega
 simp only [keycode_put8.s0, keycode_put8.s0c, e1, e2, e3, decide_true, cond_true, ofs, byteAt_eq n i (by omega), i64w (n := (i : Int) - 8) (by omega) (by omega)]
theorem put8_end (n : Int) (xs : List Int) (k : Nat) : keycode_put8.s0 (k + 1) n (-8) xs = some xs := by
 simp only [keycode_put8.s0, keycode_put8.s0c]; rfl
theorem put8_eq (n : Nat) (xs : List Int) (hx : xs.length + 8 ≤ 35184372088832) (k : Nat) : keycode_put8.f (k + 9) (n : Int) xs = some (xs ++ eightI n) := by
 simp only [keycode_put8.f, keycode_put8.c, ofs]
 have h56 := put8_step n 56 (by omega) xs (by omega) (k + 8)
 have h48 := put8_step n 48 (by omega) (xs ++ [byteAt n 56]) (by simp; omega) (k + 7)
 have h40 := put8_step n 40 (by omega) (xs ++ [byteAt n 56] ++ [byteAt n 48]) (by simp; omega) (k + 6)
 have h32 := put8_step n 32 (by omega) (xs ++ [byteAt n 56] ++ [byteAt n 48] ++ [byteAt n 40]) (by simp; omega) (k + 5)
 have h24 := put8_step n 24 (by omega) (xs ++ [byteAt n 56] ++ [byteAt n 48] ++ [byteAt n 40] ++ [byteAt n 32]) (by simp; omega) (k + 4)
 have h16 := put8_step n 16 (by omega) (xs ++ [byteAt n 56] ++ [byteAt n 48] ++ [byteAt n 40] ++ [byteAt n 32] ++ [byteAt n 24]) (by simp; omega) (k + 3)
 have h8 := put8_step n 8 (by omega) (xs ++ [byteAt n 56] ++ [byteAt n 48] ++ [byteAt n 40] ++ [byteAt n 32] ++ [byteAt n 24] ++ [byteAt n 16]) (by simp; omega) (k + 2)
 have h0 := put8_step n 0 (by omega) (xs ++ [byteAt n 56] ++ [byteAt n 48] ++ [byteAt n 40] ++ [byteAt n 32] ++ [byteAt n 24] ++ [byteAt n 16] ++ [byteAt n 8]) (by simp; omega) (k + 1)
 refine h56.trans (h48.trans (h40.trans (h32.trans (h24.trans (h16.trans (h8.trans (h0.trans ((put8_end _ _ _).trans ?_))))))))
 simp [eightI]
def escI (s : List UInt8) : List Int := s.flatMap escOne ++ [0, 0]
theorem escTo_all (s : ByteArray) : escTo s s.size = s.data.toList.flatMap escOne := by
 unfold escTo; rw [List.take_of_length_le (by rw [← size_eq]; exact Nat.le_refl _)]
theorem flat_len (l : List UInt8) : (l.flatMap escOne).length ≤ 2 * l.length := by
 rw [List.length_flatMap]
 induction l with
 | nil => simp
 | cons a l ih => simp only [List.map_cons, List.sum_cons, List.length_cons]; have : (escOne a).length ≤ 2 := by unfold escOne; split <;> simp
                  omega
theorem put_s0 (s : ByteArray) (xs : List Int) (h : xs.length + 2 * s.size + 2 ≤ 35184372088832) (k : Nat) : keycode_put.s0 k s xs = some (xs ++ escI s.data.toList) := by
 unfold keycode_put.s0
 rw [decide_eq_true (by simpa using h), escTo_all]; rfl
def kputI (a0 a1 : Int) (n : Nat) (s : List UInt8) : List Int :=
 (a0 % 256) :: (if a0 = 1 then [a1 % 256] else if a0 = 2 then eightI (turn (a1 % 18446744073709551616).toNat) else if a0 = 3 then eightI (keyU n) else if a0 = 4 ∨ a0 = 5 then escI s else [])
theorem turn_int (a1 : Int) : IntKind.wrap IntKind.u64 ((BitVec.toNat ((BitVec.ofInt (64 : Nat) (IntKind.wrap IntKind.u64 a1)) ^^^ (BitVec.ofInt (64 : Nat) (9223372036854775808 : Int)))) : Int) = (turn (a1 % 18446744073709551616).toNat : Int) := by
 rw [u64m]
 have h := xTop (n := (a1 % 18446744073709551616).toNat) (by omega)
 rwa [show (((a1 % 18446744073709551616).toNat : Nat) : Int) = a1 % 18446744073709551616 by omega] at h
theorem kput_eq (a0 a1 : Int) (n : Nat) (hn : n < 18446744073709551616) (s : ByteArray) (hs : s.size ≤ 100000) (xs : List Int) (hx : xs.length ≤ 1000000000) (k : Nat) (hk : 10 ≤ k) :
  keycode_put.f k a0 a1 (n : Int) s xs = some (xs ++ kputI a0 a1 n s.data.toList) := by
 obtain ⟨k, rfl⟩ : ∃ j, k = j + 9 := ⟨k - 9, by omega⟩
 have e1 : (xs.length + 1) * 1 ≤ 35184372088832 := by omega
 have e2 : ((xs ++ [a0 % 256]).length + 1) * 1 ≤ 35184372088832 := by simp; omega
 have p8 := fun m : Nat => put8_eq m (xs ++ [a0 % 256]) (by simp; omega) k
 have ps := put_s0 s (xs ++ [a0 % 256]) (by simp; omega) (k + 9)
 simp only [keycode_put.f, keycode_put.c, keycode_escaped.f, keycode_escaped.c, u8m, e1, e2, turn_int, p8, ps, key_eq hn, cond_true, cond_false, if_b, decide_eq_true_eq, Bool.and_eq_true, Bool.or_eq_true, beq_iff_eq, bne_iff_ne, ne_eq, Bool.not_eq_true', Bool.not_eq_false', Bool.true_and, Bool.and_true, Bool.false_eq_true, if_false, if_true, true_and, and_true, os, Option.bind_none, ofs, beq_eq_false_iff_ne, decide_eq_false_iff_not, toList_iff]
 unfold kputI
 by_cases h1 : a0 = 1
 ·subst h1; simp
 ·by_cases h2 : a0 = 2
  ·subst h2; simp
  ·by_cases h3 : a0 = 3
   ·subst h3; simp
   ·by_cases h4 : a0 = 4
    ·subst h4; simp
    ·by_cases h5 : a0 = 5
     ·subst h5; simp
     ·simp [h1, h2, h3, h4, h5]
theorem kput_len (a0 a1 : Int) (n : Nat) (s : List UInt8) : (kputI a0 a1 n s).length ≤ 12 + 2 * s.length := by
 have h := flat_len s
 unfold kputI
 rw [List.length_cons]
 split
 ·simp only [List.length_cons, List.length_nil]; omega
 ·split
  ·simp only [eightI, List.length_cons, List.length_nil]; omega
  ·split
   ·simp only [eightI, List.length_cons, List.length_nil]; omega
   ·split
    ·unfold escI; rw [List.length_append]; simp only [List.length_cons, List.length_nil]; omega
    ·simp only [List.length_nil]; omega
end Go.Proofs.YtijjlpgcpdapnaaGreatDoor.Aev
