/- RealsTwo: which of any two reals comes first, and whether they are one number, is what the document says. For every input; no conditions. -/
import Derived.Test.YtdcodlbelhbihaaPRealsTwox2
import Derived.Test.YtdcodlbelhbihaaBRealsTwoRealsCanon
namespace Go.Proofs.Ytdcodlbelhbihaa.Pure
set_option linter.unusedVariables false
set_option linter.unusedSimpArgs false
open Go.RowKit Go.Proofs.Ytdcodlbelhbihaa.PRealsTwo Go.Proofs.YtdcodlbelhbihaaW.PrintWords Go.Proofs.YtdcodlbelhbihaaW.PrintLast
open Go.Proofs.Ytdcodlbelhbihaa.Plain

theorem refcmp_eq {a b : Nat} (ha : a < 18446744073709551616) (hb : b < 18446744073709551616) (k : Nat) : transomref02_Cmp.f (k + 2) (a : Int) (b : Int) = some (cmpU a b) := by
  unfold transomref02_Cmp.f cmpU
  rw [refkey_eq ha, Option.bind_some, refkey_eq hb, Option.bind_some]
  by_cases c : keyU a < keyU b
  · rw [if_pos (by omega), if_pos c]
  · rw [if_neg (by omega), if_neg c, Option.bind_some, Option.bind_some]
    by_cases d : keyU b < keyU a
    · rw [if_pos (by omega), if_pos d]
    · rw [if_neg (by omega), if_neg d]
theorem refequal_eq {a b : Nat} (ha : a < 18446744073709551616) (hb : b < 18446744073709551616) (k : Nat) : transomref02_Equal.f (k + 3) (a : Int) (b : Int) = some (decide (sameR a b)) := by
  have na := @class_nan a
  have nb := @class_nan b
  have za := @class_zero a
  have zb := @class_zero b
  unfold transomref02_Equal.f
  rw [refclass_eq ha, Option.bind_some]
  by_cases c : classOf a = 1
  · rw [if_pos c, transomref02_Equal.j0, if_pos rfl, decide_eq_false (by unfold sameR; omega)]
  · rw [if_neg c, refclass_eq hb, Option.bind_some, transomref02_Equal.j0]
    by_cases d : classOf b = 1
    · rw [if_pos (by rw [beq_iff_eq]; exact d), decide_eq_false (by unfold sameR; omega)]
    · rw [if_neg (by rw [beq_iff_eq]; exact d)]
      by_cases e : a = b
      · rw [if_pos (by omega), decide_eq_true (by unfold sameR; omega)]
      · rw [if_neg (by omega), refclass_eq ha, Option.bind_some]
        by_cases f : classOf a = 3
        · rw [if_pos f, refclass_eq hb, Option.bind_some]
          by_cases g : classOf b = 3
          · rw [beq_iff_eq.2 g, decide_eq_true (by unfold sameR; omega)]
          · rw [beq_eq_false_iff_ne.2 g, decide_eq_false (by unfold sameR; omega)]
        · rw [if_neg f, decide_eq_false (by unfold sameR; omega)]
theorem RealsTwo : transomlaw02_RealsTwo.Pure := by
  intro a b wa wb
  obtain ⟨a, rfl, ha⟩ := nat_of wa
  obtain ⟨b, rfl, hb⟩ := nat_of wb
  obtain ⟨k, hk⟩ : ∃ k : Nat, 0 ≤ k := ⟨0, by omega⟩
  refine ⟨k + 3, ?_⟩
  unfold transomlaw02_RealsTwo.f
  rw [cmp_eq ha hb, Option.bind_some, refcmp_eq ha hb, Option.bind_some, if_pos rfl, equal_eq ha hb, Option.bind_some, refequal_eq ha hb, Option.bind_some, if_pos (by simp), awake_true]; rfl
end Go.Proofs.Ytdcodlbelhbihaa.Pure
