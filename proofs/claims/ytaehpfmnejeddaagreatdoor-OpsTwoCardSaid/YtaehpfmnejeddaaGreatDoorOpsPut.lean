
/- What is asked, as bytes: the program's and the document's ways. -/
import Derived.Test.YtaehpfmnejeddaaGreatDoorF4
import Derived.Test.YtaehpfmnejeddaaGreatDoorF5
import Derived.Test.YtaehpfmnejeddaaGreatDoorF13
import Derived.Test.YtaehpfmnejeddaaGreatDoorOps
import Derived.Test.YtaehpfmnejeddaaGreatDoorRowRows
namespace Go.Proofs.YtaehpfmnejeddaaGreatDoor.Aev
open Go
set_option linter.unusedVariables false
set_option linter.unusedSimpArgs false
set_option maxRecDepth 100000
abbrev Oq : Type := D_api_Op
structure FewO (o : Oq) : Prop where
  kd : -9223372036854775808 ≤ o.1 ∧ o.1 ≤ 9223372036854775807
  mx : -9223372036854775808 ≤ o.2.2.2.2.2.1 ∧ o.2.2.2.2.2.1 ≤ 9223372036854775807
  tb : o.2.1.size ≤ 500
  r1 : FewW o.2.2.1
  r2 : FewW o.2.2.2.1
  r3 : FewW o.2.2.2.2.1
  ch : FewCh o.2.2.2.2.2.2.1
theorem few13 (o : Oq) (hf : Fit T_api_Op o) (k : Nat) (hk : 200 ≤ k) : ∃ r, transomlaw13_FewOp.f k o = some r ∧ (r = 0 ∨ FewO o) := by
  obtain ⟨f1, f2, f3, f4, f5, f6, f7, _⟩ := hf
  have h1 := few05 o.2.2.1 k (by omega)
  have h2 := few05 o.2.2.2.1 k (by omega)
  have h3 := few05 o.2.2.2.2.1 k (by omega)
  obtain ⟨r, h4, g4⟩ := few10 o.2.2.2.2.2.2.1 f7 k hk
  have z1 : ((1 : Int) == 0) = false := rfl
  have z0 : ((0 : Int) == 0) = true := rfl
  simp only [transomlaw13_FewOp.f, transomlaw13_FewOp.c, h1, h2, h3, h4, Option.bind_some]
  by_cases c0 : (o.2.1.size : Int) > 500
  · simp only [c0, decide_true, cond_true]; exact ⟨0, rfl, .inl rfl⟩
  · simp only [c0, decide_false, cond_false]
    by_cases c1 : o.2.2.1.length ≤ 30 ∧ ∀ v ∈ o.2.2.1, v.2.2.2.1.size ≤ 2000
    · rw [if_pos c1]
      by_cases c2 : o.2.2.2.1.length ≤ 30 ∧ ∀ v ∈ o.2.2.2.1, v.2.2.2.1.size ≤ 2000
      · rw [if_pos c2]
        by_cases c3 : o.2.2.2.2.1.length ≤ 30 ∧ ∀ v ∈ o.2.2.2.2.1, v.2.2.2.1.size ≤ 2000
        · rw [if_pos c3]
          by_cases c4 : r = 0
          · simp only [z1, c4, z0, cond_false, cond_true]; exact ⟨0, rfl, .inl rfl⟩
          · simp only [z1, beq_eq_false_iff_ne.2 c4, cond_false]
            exact ⟨1, rfl, .inr { kd := fit_i64 f1, mx := fit_i64 f6, tb := by omega, r1 := fit_w f3 c1, r2 := fit_w f4 c2, r3 := fit_w f5 c3, ch := g4.resolve_left c4 }⟩
        · rw [if_neg c3]; simp only [z1, z0, cond_false, cond_true]; exact ⟨0, rfl, .inl rfl⟩
      · rw [if_neg c2]; simp only [z1, z0, cond_false, cond_true]; exact ⟨0, rfl, .inl rfl⟩
    · rw [if_neg c1]; simp only [z1, z0, cond_false, cond_true]; exact ⟨0, rfl, .inl rfl⟩
def badO (o : Oq) : Prop := o.1 < 1 ∨ o.1 > 9 ∨ o.2.2.2.2.2.1 < 0 ∨ o.2.2.2.2.2.1 > 64
instance (o : Oq) : Decidable (badO o) := by unfold badO; infer_instance
end Go.Proofs.YtaehpfmnejeddaaGreatDoor.Aev
