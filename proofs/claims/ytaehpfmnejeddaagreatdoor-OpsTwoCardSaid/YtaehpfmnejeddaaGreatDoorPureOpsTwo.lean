
/- OpsTwo: whether any two ask the same, and answer the same: what the document says. For every input; no conditions. -/
import Derived.Test.YtaehpfmnejeddaaGreatDoorF6
import Derived.Test.YtaehpfmnejeddaaGreatDoorF19
import Derived.Test.YtaehpfmnejeddaaGreatDoorOpsSame
namespace Go.Proofs.YtaehpfmnejeddaaGreatDoor.Aev
open Go
set_option linter.unusedVariables false
set_option linter.unusedSimpArgs false
set_option maxRecDepth 100000
theorem awake_all (k : Nat) : transomlaw14_awake.f (k + 100) = some true := by kernel_rfl
def wide (l : List (List V)) : Nat := (l.map List.length).sum
theorem wide_le : ∀ (l : List (List V)), ∀ x ∈ l, x.length ≤ wide l
  | [], x, h => by simp at h
  | y :: l, x, h => by
    have e : wide (y :: l) = y.length + wide l := by simp [wide]
    rcases List.mem_cons.1 h with rfl | h
    · omega
    · have := wide_le l x h; omega
theorem Pure.OpsTwo (x0 : D_api_Op) (x1 : D_api_Op) (x2 : D_api_Reply × (D_api_Reply × Unit)) (h0 : Fit T_api_Op x0) (h1 : Fit T_api_Op x1) (h2 : Fit (.pair T_api_Reply (.pair T_api_Reply .unit)) x2) : ∃ k, transomlaw14_OpsTwo.f k x0 x1 x2.1.1 x2.1.2.1 x2.2.1.1 x2.2.1.2.1 = some true := by
  obtain ⟨k, hk⟩ : ∃ k, 20000 + 3 * wide x2.1.2.1 ≤ k := ⟨_, Nat.le_refl _⟩
  refine ⟨k + 1 + 1, ?_⟩
  obtain ⟨⟨_, f1, _⟩, ⟨_, f2, _⟩, _⟩ := h2
  have hv : ∀ x ∈ x2.1.2.1, x.length ≤ 9223372036854775807 ∧ x.length ≤ wide x2.1.2.1 := fun x hx => ⟨by have := (f1.2 x hx).1; unfold maxLen at this; omega, wide_le _ x hx⟩
  obtain ⟨r, g1, g2⟩ := few13 x0 h0 (k + 1 + 1) (by omega)
  obtain ⟨r', g1', g2'⟩ := few13 x1 h1 (k + 1 + 1) (by omega)
  have aw : ∀ j, 100 ≤ j → transomlaw14_awake.f j = some true := fun j hj => by
    obtain ⟨i, rfl⟩ : ∃ i, j = i + 100 := ⟨j - 100, by omega⟩
    exact awake_all i
  have aw1 := aw (k + 1) (by omega)
  have aw0 := aw k (by omega)
  simp only [transomlaw14_OpsTwo.f, transomlaw14_OpsTwo.c, g1, g1', Option.bind_some]
  by_cases c : r = 0
  · simp only [c, beq_self_eq_true, cond_true, transomlaw14_OpsTwo.s0, transomlaw14_OpsTwo.s0c, aw1, Option.bind_some]
  · by_cases c' : r' = 0
    · simp only [beq_eq_false_iff_ne.2 c, cond_false, c', beq_self_eq_true, cond_true, transomlaw14_OpsTwo.s0, transomlaw14_OpsTwo.s0c, aw1, Option.bind_some]
    · have ha := g2.resolve_left c
      have hb := g2'.resolve_left c'
      simp only [beq_eq_false_iff_ne.2 c, beq_eq_false_iff_ne.2 c', cond_false]
      by_cases d : (x2.1.2.1.length : Int) > 10
      · simp only [d, decide_true, cond_true, transomlaw14_OpsTwo.s0, transomlaw14_OpsTwo.s0c, aw1, Option.bind_some]
      · have s1 := sameO_f ha hb k (by omega)
        have s2 := rsameO_f ha hb k (by omega)
        have q1 := replies_f x2.1.1 x2.1.2.1 x2.2.1.1 x2.2.1.2.1 (by omega) (wide x2.1.2.1) hv k (by omega)
        have q2 := rreplies_f x2.1.1 x2.1.2.1 x2.2.1.1 x2.2.1.2.1 (by omega) (wide x2.1.2.1) hv k (by omega)
        have q3 := rall_f x2.1.2.1 x2.2.1.2.1 (by omega) (wide x2.1.2.1) hv k (by omega)
        have tail : ∀ b : Bool, (bif b then transomlaw14_awake.f (k + 1) else transomlaw14_OpsTwo.s1 (k + 1) x0 x1 x2.1.1 x2.1.2.1 x2.2.1.1 x2.2.1.2.1) = some true := by
          intro b
          cases b with
          | true => exact aw1
          | false =>
            simp only [cond_false, transomlaw14_OpsTwo.s1, transomlaw14_OpsTwo.s1c, s1, s2, q1, q2, q3, beq_self_eq_true, cond_true, aw0, Option.bind_some, Option.bind_fun_some]
            by_cases e : x2.1.1 = x2.2.1.1
            · simp only [e, bne_self_eq_false, cond_false, true_and, beq_self_eq_true, cond_true]
            · simp only [bne_iff_ne.2 e, cond_true]
        have := tail (decide ((x2.2.1.2.1.length : Int) > 10))
        simp only [d, decide_false, cond_false, transomlaw14_OpsTwo.s0, transomlaw14_OpsTwo.s0c, Option.bind_fun_some, this]
end Go.Proofs.YtaehpfmnejeddaaGreatDoor.Aev
