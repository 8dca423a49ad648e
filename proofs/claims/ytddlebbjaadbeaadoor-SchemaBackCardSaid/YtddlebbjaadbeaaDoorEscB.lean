
/- Escaped texts, and numbers of eight bytes, read again. -/
import Derived.Test.YtddlebbjaadbeaaDoorKeyRead
namespace Go.Proofs.YtddlebbjaadbeaaDoor.Aev
open Go
set_option linter.unusedVariables false
set_option linter.unusedSimpArgs false
set_option maxRecDepth 100000
def escB : List UInt8 → List UInt8
  | [] => [0, 0]
  | c :: s => if c = 0 then 0 :: 255 :: escB s else c :: escB s
theorem escB_eq : ∀ s : List UInt8, (escI s).map b8 = escB s
  | [] => rfl
  | c :: s => by
    have ih := escB_eq s
    unfold escI at ih ⊢
    rw [List.flatMap_cons, List.append_assoc, List.map_append, ih, escB]
    by_cases h : c = 0
    · subst h; rfl
    · rw [if_neg h]; unfold escOne; rw [if_neg h]; simp [b8_eta]
theorem plain_esc (r : List UInt8) : ∀ s : List UInt8, plainS (escB s ++ r) = (s, r, 0)
  | [] => by
    show plainS (0 :: 0 :: r) = _
    conv => lhs; rw [plainS]
    simp
  | c :: s => by
    have ih := plain_esc r s
    rw [escB]
    by_cases h : c = 0
    · subst h
      rw [if_pos rfl, List.cons_append, List.cons_append, plainS_255, ih]; rfl
    · rw [if_neg h, List.cons_append, plainS_c _ h, ih]; rfl
theorem plain_short : ∀ (s : List UInt8) (j : Nat), j < (escB s).length → (plainS ((escB s).take j)).2.2 = 3
  | [], 0, _ => rfl
  | [], 1, _ => rfl
  | [], j + 2, h => by simp [escB] at h; omega
  | c :: s, j, h => by
    rw [escB] at h ⊢
    by_cases hc : c = 0
    · subst hc
      rw [if_pos rfl] at h ⊢
      match j, h with
      | 0, _ => rfl
      | 1, _ => rfl
      | j + 2, h =>
        have ih := plain_short s j (by simpa using h)
        rw [List.take_succ_cons, List.take_succ_cons, plainS_255]
        generalize plainS ((escB s).take j) = q at ih
        obtain ⟨x, y, e⟩ := q
        simp only at ih
        subst ih; rfl
    · rw [if_neg hc] at h ⊢
      match j, h with
      | 0, _ => rfl
      | j + 1, h =>
        have ih := plain_short s j (by simpa using h)
        rw [List.take_succ_cons, plainS_c _ hc]
        generalize plainS ((escB s).take j) = q at ih
        obtain ⟨x, y, e⟩ := q
        simp only at ih
        subst ih; rfl
theorem back_key {n : Nat} (h : n < 18446744073709551616) (hc : canon n = n) : backS (keyU n) = (n, true) := by
  have e : backR (keyU n) = n := by unfold backR keyU; rw [hc]; split <;> split <;> omega
  unfold backS
  rw [e, if_pos hc]
end Go.Proofs.YtddlebbjaadbeaaDoor.Aev
