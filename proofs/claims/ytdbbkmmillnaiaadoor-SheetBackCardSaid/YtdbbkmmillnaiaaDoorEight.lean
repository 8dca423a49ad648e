
/- Numbers in eight bytes. -/

import Derived.Test.YtdbbkmmillnaiaaDoorBa
namespace Go.Proofs.YtdbbkmmillnaiaaDoor.Aev
open Go
set_option linter.unusedVariables false
set_option linter.unusedSimpArgs false
set_option maxRecDepth 100000
/-- a number's bytes, the highest first -/
def byteAt (n i : Nat) : Int := ((n / 2 ^ i % 256 : Nat) : Int)
def eightI (n : Nat) : List Int := [byteAt n 56, byteAt n 48, byteAt n 40, byteAt n 32, byteAt n 24, byteAt n 16, byteAt n 8, byteAt n 0]
theorem byteAt_eq (n i : Nat) (hi : i ≤ 64) : IntKind.wrap IntKind.u8 (Int.fdiv (n : Int) ((2 : Int) ^ (Min.min (Int.toNat (i : Int)) (64 : Nat)))) = byteAt n i := by
  have e0 : Min.min (Int.toNat (i : Int)) 64 = i := by rw [Int.toNat_natCast]; omega
  have hp : (0 : Int) ≤ (2 : Int) ^ i := Int.pow_nonneg (by omega)
  rw [e0, u8m, Int.fdiv_eq_ediv_of_nonneg _ hp, byteAt, Int.natCast_emod, Int.natCast_ediv, Int.natCast_pow]; rfl
theorem byte_div (n i : Nat) : n / 2 ^ i = n / 2 ^ (i + 8) * 256 + n / 2 ^ i % 256 := by
  rw [Nat.pow_add, ← Nat.div_div_eq_div_mul]
  show _ = n / 2 ^ i / 256 * 256 + _
  omega
theorem fdiv_byte (n : Nat) (j : Nat) (p : Int) (hp : p = (2 : Int) ^ j) : IntKind.wrap IntKind.u8 (Int.fdiv (n : Int) p) = byteAt n j := by
  subst hp
  have h : (0 : Int) ≤ (2 : Int) ^ j := Int.pow_nonneg (by omega)
  rw [u8m, Int.fdiv_eq_ediv_of_nonneg _ h, byteAt, Int.natCast_emod, Int.natCast_ediv, Int.natCast_pow]; rfl
theorem b8_byteAt (m i : Nat) : (b8 (byteAt m i)).toNat = m / 2 ^ i % 256 := by
  unfold byteAt; exact b8_nat _ (Nat.mod_lt _ (by omega))
theorem numB_eight {m : Nat} (h : m < 18446744073709551616) : numB ((eightI m).map b8) = m := by
  simp only [eightI, numB, List.map_cons, List.map_nil, List.foldl_cons, List.foldl_nil, b8_byteAt]
  have a7 := byte_div m 56
  have a6 := byte_div m 48
  have a5 := byte_div m 40
  have a4 := byte_div m 32
  have a3 := byte_div m 24
  have a2 := byte_div m 16
  have a1 := byte_div m 8
  have a0 := byte_div m 0
  simp only [Nat.reduceAdd] at *
  have a8 : m / 2 ^ 64 = 0 := Nat.div_eq_of_lt (by omega)
  have c0 : m / 2 ^ 0 = m := by simp
  omega
theorem eight_len (m : Nat) : ((eightI m).map b8).length = 8 := rfl
end Go.Proofs.YtdbbkmmillnaiaaDoor.Aev
