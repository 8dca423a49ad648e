
/- Numbers of eight bytes. -/
import Derived.Test.YtijjlpgcpdapnaaGreatDoorF8
import Derived.Test.YtijjlpgcpdapnaaGreatDoorBa
namespace Go.Proofs.YtijjlpgcpdapnaaGreatDoor.Aev
open Go
set_option linter.unusedVariables false
set_option linter.unusedSimpArgs false
set_option maxRecDepth 100000
theorem number_s0 (l : List UInt8) (hl : 8 ≤ l.length) : ∀ (m i x : Nat), i + m = 8 → x < 256 ^ i → ∀ k, m < k → transomref05_Number.s0 k (ByteArray.mk (List.toArray l)) (x : Int) (i : Int) = some (((((l.drop i).take m).foldl (fun n c => n * 256 + c.toNat) x : Nat)) : Int) := by
  intro m
  induction m with
  | zero =>
    intro i x hi hx k hk
    obtain ⟨k, rfl⟩ : ∃ j, k = j + 1 := ⟨k - 1, by omega⟩
    have e : ¬ (i : Int) < 8 := by omega
    simp only [transomref05_Number.s0, transomref05_Number.s0c, e, decide_false, cond_false, List.take_zero, List.foldl_nil]
  | succ m ih =>
    intro i x hi hx k hk
    obtain ⟨k, rfl⟩ : ∃ j, k = j + 1 := ⟨k - 1, by omega⟩
    have hlt : i < l.length := by omega
    have e0 : (i : Int) < 8 := by omega
    have e1 : (0 : Int) ≤ (i : Int) := by omega
    have e2 : (i : Int) < (l.length : Int) := by omega
    have e3 : IntKind.wrap IntKind.i64 ((i : Int) + 1) = ((i + 1 : Nat) : Int) := by rw [i64w (by omega) (by omega)]; omega
    have hp : 256 ^ i ≤ 256 ^ 7 := Nat.pow_le_pow_right (by omega) (by omega)
    have hx2 : x < 72057594037927936 := by omega
    have hd : l.drop i = l[i] :: l.drop (i + 1) := List.drop_eq_getElem_cons hlt
    have hc := (l[i]).toNat_lt
    have := ih (i + 1) (x * 256 + (l[i]).toNat) (by omega) (by
      have : (x + 1) * 256 ≤ 256 ^ i * 256 := Nat.mul_le_mul_right _ hx
      rw [Nat.pow_succ]; omega) k (by omega)
    simp only [transomref05_Number.s0, transomref05_Number.s0c, e0, e1, ba_size, e2, ba_bt l i hlt, or_step hx2, e3, decide_true, Bool.and_self, cond_true, Option.bind_fun_some, this, hd, List.take_succ_cons, List.foldl_cons]
theorem number_eq (l : List UInt8) (hl : 8 ≤ l.length) (k : Nat) (hk : 9 ≤ k) : transomref05_Number.f k (ByteArray.mk (List.toArray l)) = some (numB (l.take 8) : Int) := by
  simp only [transomref05_Number.f, transomref05_Number.c, Option.bind_fun_some]
  exact number_s0 l hl 8 0 0 rfl (by simp) k (by omega)
theorem numB8_lt (l : List UInt8) : numB (l.take 8) < 18446744073709551616 := by
  have := numB_lt (l.take 8)
  have h2 : 256 ^ (l.take 8).length ≤ 256 ^ 8 := Nat.pow_le_pow_right (by omega) (by simp; omega)
  omega
end Go.Proofs.YtijjlpgcpdapnaaGreatDoor.Aev
