import Derived.Test.YtaehpfmnejeddaaGreatDoorF2
import Derived.Test.YtaehpfmnejeddaaGreatDoorF8
import Derived.Test.YtaehpfmnejeddaaGreatDoorVals
import Derived.Test.YtaehpfmnejeddaaGreatDoorBa

/- The keys of reals. -/
namespace Go.Proofs.YtaehpfmnejeddaaGreatDoor.Aev
open Go
set_option linter.unusedVariables false
set_option linter.unusedSimpArgs false
set_option maxRecDepth 100000
def keyU (n : Nat) : Nat := if canon n < 9223372036854775808 then canon n + 9223372036854775808 else 18446744073709551615 - canon n
theorem keyU_lt {n : Nat} (h : n < 18446744073709551616) : keyU n < 18446744073709551616 := by have := canon_lt h; unfold keyU; split <;> omega
theorem key_eq {n : Nat} (h : n < 18446744073709551616) (k : Nat) : reals_Key.f k (n : Int) = some (keyU n : Int) := by
 have hc := canon_lt h
 simp only [reals_Key.f, reals_Key.c, canon_eq, Option.bind_some, aTop hc, xNot hc]
 unfold keyU
 by_cases c : canon n < 9223372036854775808
 ·rw [if_pos c, oTop c, if_pos c]; rfl
 ·rw [if_neg c, if_neg c]; rfl
theorem refkey_eq {n : Nat} (h : n < 18446744073709551616) (k : Nat) : transomref02_Key.f (k + 1) (n : Int) = some (keyU n : Int) := by
 have hc := canon_lt h
 have e1 : Int.fdiv (canon n : Int) 9223372036854775808 = ((canon n / 9223372036854775808 : Nat) : Int) := by rw [Int.fdiv_eq_ediv_of_nonneg _ (by omega)]; omega
 simp only [transomref02_Key.f, transomref02_Key.c, refcanon_eq h, Option.bind_some, xNot hc, e1, cond_true, cond_false, if_b, decide_eq_true_eq, Bool.and_eq_true, Bool.or_eq_true, beq_iff_eq, bne_iff_ne, ne_eq, Bool.not_eq_true', Bool.not_eq_false', Bool.true_and, Bool.and_true, Bool.false_eq_true, if_false, if_true, true_and, and_true, Option.bind_some, Option.bind_none, Option.bind_fun_some, beq_eq_false_iff_ne, decide_eq_false_iff_not, toList_iff]
 unfold keyU
 by_cases c : canon n < 9223372036854775808
 ·rw [if_pos (by omega), oTop c, if_pos c]
 ·rw [if_neg (by omega), if_neg c]
end Go.Proofs.YtaehpfmnejeddaaGreatDoor.Aev

/- Numbers in eight bytes. -/
namespace Go.Proofs.YtaehpfmnejeddaaGreatDoor.Aev
open Go
set_option linter.unusedVariables false
set_option linter.unusedSimpArgs false
set_option maxRecDepth 100000
def byteAt (n i : Nat) : Int := ((n / 2 ^ i % 256 : Nat) : Int)
def eightI (n : Nat) : List Int := [byteAt n 56, byteAt n 48, byteAt n 40, byteAt n 32, byteAt n 24, byteAt n 16, byteAt n 8, byteAt n 0]
theorem byteAt_eq (n i : Nat) (hi : i ≤ 64) : IntKind.wrap IntKind.u8 (Int.fdiv (n : Int) ((2 : Int) ^ (Min.min (Int.toNat (i : Int)) (64 : Nat)))) = byteAt n i := by
 have e0 : Min.min (Int.toNat (i : Int)) 64 = i := by rw [Int.toNat_natCast]; omega
 have hp : (0 : Int) ≤ (2 : Int) ^ i := Int.pow_nonneg (by omega)
 rw [e0, u8m, Int.fdiv_eq_ediv_of_nonneg _ hp, byteAt, Int.natCast_emod, Int.natCast_ediv, Int.natCast_pow]; rfl
theorem byte_div (n i : Nat) : n / 2 ^ i = n / 2 ^ (i + 8) * 256 + n / 2 ^ i % 256 := by
 rw [Nat.pow_add, ← Nat.div_div_eq_div_mul]
 show _ = n / 2 ^ i / 256 * 256 + _
 omega
theorem fdiv_byte (n : Nat) (j : Nat) (p : Int) (hp : p = (2 : Int) ^ j) : IntKind.wrap IntKind.u8 (Int.fdiv (n : Int) p) = byteAt n j := by
 subst hp
 have h : (0 : Int) ≤ (2 : Int) ^ j := Int.pow_nonneg (by omega)
 rw [u8m, Int.fdiv_eq_ediv_of_nonneg _ h, byteAt, Int.natCast_emod, Int.natCast_ediv, Int.natCast_pow]; rfl
theorem b8_byteAt (m i : Nat) : (b8 (byteAt m i)).toNat = m / 2 ^ i % 256 := by
 unfold byteAt; exact b8_nat _ (Nat.mod_lt _ (by omega))
theorem numB_eight {m : Nat} (h : m < 18446744073709551616) : numB ((eightI m).map b8) = m := by
 simp only [eightI, numB, List.map_cons, List.map_nil, List.foldl_cons, List.foldl_nil, b8_byteAt]
 have a7 := byte_div m 56
 have a6 := byte_div m 48
 have a5 := byte_div m 40
 have a4 := byte_div m 32
 have a3 := byte_div m 24
 have a2 := byte_div m 16
 have a1 := byte_div m 8
 have a0 := byte_div m 0
 simp only [Nat.reduceAdd] at *
 have a8 : m / 2 ^ 64 = 0 := Nat.div_eq_of_lt (by omega)
 have c0 : m / 2 ^ 0 = m := by simp
 omega
theorem eight_len (m : Nat) : ((eightI m).map b8).length = 8 := rfl
theorem eight_step (n i : Nat) (hi : i < 8) (xs : List Int) (hx : xs.length + 1 ≤ 35184372088832) (k : Nat) : transomref05_Eight.s0 (k + 1) (n : Int) (i : Int) xs = transomref05_Eight.s0 k (n : Int) ((i + 1 : Nat) : Int) (xs ++ [byteAt n (56 - 8 * i)]) := by
 have e1 : (i : Int) < 8 := by omega
 have e3 : (xs.length + 1) * 1 ≤ 35184372088832 := by omega
 have e4 : IntKind.wrap IntKind.i64 ((8 : Int) * (i : Int)) = 8 * i := i64w (by omega) (by omega)
 have e5 : IntKind.wrap IntKind.i64 ((56 : Int) - 8 * (i : Int)) = 56 - 8 * i := i64w (by omega) (by omega)
 have e6 : IntKind.wrap IntKind.u64 ((56 : Int) - 8 * (i : Int)) = ((56 - 8 * i : Nat) : Int) := by rw [u64w (by omega) (by omega)]; omega
 have e2 : (0 : Int) ≤ ((56 - 8 * i : Nat) : Int) := by omega
 have e7 : IntKind.wrap IntKind.i64 ((i : Int) + 1) = ((i + 1 : Nat) : Int) := by rw [i64w (by omega) (by omega)]; omega
 simp only [transomref05_Eight.s0, transomref05_Eight.s0c, e4, e5, e6, e1, e2, e3, e7, decide_true, cond_true, Option.bind_fun_some, byteAt_eq n (56 - 8 * i) (by omega)]
theorem eight_eq (n : Nat) (k : Nat) : ∃ b, transomref05_Eight.f (k + 9) (n : Int) = some b ∧ b.data.toList = (eightI n).map b8 := by
 refine ⟨⟨((eightI n).map b8).toArray⟩, ?_, rfl⟩
 simp only [transomref05_Eight.f, transomref05_Eight.c, Option.bind_fun_some]
 have h : ∀ (m i : Nat) (xs : List Int), i + m = 8 → xs.length = i → ∀ k, m < k → transomref05_Eight.s0 k (n : Int) (i : Int) xs = some ⟨((xs ++ (List.range m).map fun j => byteAt n (56 - 8 * (i + j))).map b8).toArray⟩ := by
  intro m
  induction m with
  | zero =>
   intro i xs hi hx k hk
   obtain ⟨k, rfl⟩ : ∃ j, k = j + 1 := ⟨k - 1, by omega⟩
   have e : ¬ (i : Int) < 8 := by omega
   simp only [transomref05_Eight.s0, transomref05_Eight.s0c, e, decide_false, cond_false, List.range_zero, List.map_nil, List.append_nil]
  | succ m ih =>
   intro i xs hi hx k hk
   obtain ⟨k, rfl⟩ : ∃ j, k = j + 1 := ⟨k - 1, by omega⟩
   rw [eight_step n i (by omega) xs (by omega) k, ih (i + 1) _ (by omega) (by simp [hx]) k (by omega), List.range_succ_eq_map, List.map_cons, List.map_map]
   simp only [Function.comp_def, List.append_assoc, List.cons_append, List.nil_append, Nat.add_zero]
   congr 6
   apply List.map_congr_left
   intro j _
   rw [show i + 1 + j = i + (j + 1) by omega]
 exact h 8 0 [] rfl rfl (k + 9) (by omega)
end Go.Proofs.YtaehpfmnejeddaaGreatDoor.Aev
