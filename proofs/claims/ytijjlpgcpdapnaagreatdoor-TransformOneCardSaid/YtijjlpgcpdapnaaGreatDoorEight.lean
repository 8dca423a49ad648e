
/- Numbers in eight bytes. -/
import Derived.Test.YtijjlpgcpdapnaaGreatDoorF7
import Derived.Test.YtijjlpgcpdapnaaGreatDoorBa
namespace Go.Proofs.YtijjlpgcpdapnaaGreatDoor.Aev
open Go
set_option linter.unusedVariables false
set_option linter.unusedSimpArgs false
set_option maxRecDepth 100000
def byteAt (n i : Nat) : Int := ((n / 2 ^ i % 256 : Nat) : Int)
def eightI (n : Nat) : List Int := [byteAt n 56, byteAt n 48, byteAt n 40, byteAt n 32, byteAt n 24, byteAt n 16, byteAt n 8, byteAt n 0]
theorem byteAt_eq (n i : Nat) (hi : i ≤ 64) : IntKind.wrap IntKind.u8 (Int.fdiv (n : Int) ((2 : Int) ^ (Min.min (Int.toNat (i : Int)) (64 : Nat)))) = byteAt n i := by
  have e0 : Min.min (Int.toNat (i : Int)) 64 = i := by rw [Int.toNat_natCast]; omega
  have hp : (0 : Int) ≤ (2 : Int) ^ i := Int.pow_nonneg (by omega)
  rw [e0, u8m, Int.fdiv_eq_ediv_of_nonneg _ hp, byteAt, Int.natCast_emod, Int.natCast_ediv, Int.natCast_pow]; rfl
theorem eight_step (n i : Nat) (hi : i < 8) (xs : List Int) (hx : xs.length + 1 ≤ 35184372088832) (k : Nat) : transomref05_Eight.s0 (k + 1) (n : Int) (i : Int) xs = transomref05_Eight.s0 k (n : Int) ((i + 1 : Nat) : Int) (xs ++ [byteAt n (56 - 8 * i)]) := by
  have e1 : (i : Int) < 8 := by omega
  have e3 : (xs.length + 1) * 1 ≤ 35184372088832 := by omega
  have e4 : IntKind.wrap IntKind.i64 ((8 : Int) * (i : Int)) = 8 * i := i64w (by omega) (by omega)
  have e5 : IntKind.wrap IntKind.i64 ((56 : Int) - 8 * (i : Int)) = 56 - 8 * i := i64w (by omega) (by omega)
  have e6 : IntKind.wrap IntKind.u64 ((56 : Int) - 8 * (i : Int)) = ((56 - 8 * i : Nat) : Int) := by rw [u64w (by omega) (by omega)]; omega
  have e2 : (0 : Int) ≤ ((56 - 8 * i : Nat) : Int) := by omega
  have e7 : IntKind.wrap IntKind.i64 ((i : Int) + 1) = ((i + 1 : Nat) : Int) := by rw [i64w (by omega) (by omega)]; omega
  simp only [transomref05_Eight.s0, transomref05_Eight.s0c, e4, e5, e6, e1, e2, e3, e7, decide_true, cond_true, Option.bind_fun_some, byteAt_eq n (56 - 8 * i) (by omega)]
theorem eight_eq (n : Nat) (k : Nat) : ∃ b, transomref05_Eight.f (k + 9) (n : Int) = some b ∧ b.data.toList = (eightI n).map b8 := by
  refine ⟨⟨((eightI n).map b8).toArray⟩, ?_, rfl⟩
  simp only [transomref05_Eight.f, transomref05_Eight.c, Option.bind_fun_some]
  have h : ∀ (m i : Nat) (xs : List Int), i + m = 8 → xs.length = i → ∀ k, m < k → transomref05_Eight.s0 k (n : Int) (i : Int) xs = some ⟨((xs ++ (List.range m).map fun j => byteAt n (56 - 8 * (i + j))).map b8).toArray⟩ := by
    intro m
    induction m with
    | zero =>
      intro i xs hi hx k hk
      obtain ⟨k, rfl⟩ : ∃ j, k = j + 1 := ⟨k - 1, by omega⟩
      have e : ¬ (i : Int) < 8 := by omega
      simp only [transomref05_Eight.s0, transomref05_Eight.s0c, e, decide_false, cond_false, List.range_zero, List.map_nil, List.append_nil]
    | succ m ih =>
      intro i xs hi hx k hk
      obtain ⟨k, rfl⟩ : ∃ j, k = j + 1 := ⟨k - 1, by omega⟩
      rw [eight_step n i (by omega) xs (by omega) k, ih (i + 1) _ (by omega) (by simp [hx]) k (by omega), List.range_succ_eq_map, List.map_cons, List.map_map]
      simp only [Function.comp_def, List.append_assoc, List.cons_append, List.nil_append, Nat.add_zero]
      congr 6
      apply List.map_congr_left
      intro j _
      rw [show i + 1 + j = i + (j + 1) by omega]
  exact h 8 0 [] rfl rfl (k + 9) (by omega)
end Go.Proofs.YtijjlpgcpdapnaaGreatDoor.Aev
