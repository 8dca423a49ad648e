/- RealsThree: the order of reals is one, and Equal ones stand side by side. For every input; no conditions. -/
import Derived.Test.YtdcodlbelhbihaaPRealsThreex2
import Derived.Test.YtdcodlbelhbihaaBRealsThreeRealsKey
namespace Go.Proofs.Ytdcodlbelhbihaa.Pure
set_option linter.unusedVariables false
set_option linter.unusedSimpArgs false
open Go.RowKit Go.Proofs.Ytdcodlbelhbihaa.PRealsThree Go.Proofs.YtdcodlbelhbihaaW.PrintWords Go.Proofs.YtdcodlbelhbihaaW.PrintLast
open Go.Proofs.Ytdcodlbelhbihaa.Plain

theorem le_trans' {a b c : Nat} (h1 : cmpU a b ≤ 0) (h2 : cmpU b c ≤ 0) : ¬ cmpU a c > 0 := by
  unfold cmpU at *
  split at h1 <;> split at h2 <;> split <;> (try split at h1) <;> (try split at h2) <;> (try split) <;> omega
theorem side {a b c : Nat} (ha : a < 18446744073709551616) (hb : b < 18446744073709551616) (hc : c < 18446744073709551616) (h : sameR a c) : wrap64 (cmpU a b * cmpU b c) ≤ 0 := by
  obtain ⟨ra, rc, h⟩ := h
  have k : keyU a = keyU c ∨ keyU a + 1 = keyU c ∨ keyU c + 1 = keyU a := by
    rcases h with h | ⟨h1, h2⟩
    · exact .inl (by rw [h])
    · unfold keyU
      rw [canon_num ra, canon_num rc]
      unfold Fl.rung at h1 h2
      split <;> split <;> omega
  unfold cmpU
  by_cases c1 : keyU a < keyU b
  · rw [if_pos c1]
    by_cases c2 : keyU b < keyU c
    · omega
    · rw [if_neg c2]
      split <;> decide +kernel
  · rw [if_neg c1]
    by_cases c3 : keyU b < keyU a
    · rw [if_pos c3]
      by_cases c2 : keyU b < keyU c
      · rw [if_pos c2]; decide +kernel
      · rw [if_neg c2, if_neg (by omega)]; decide +kernel
    · rw [if_neg c3, Int.zero_mul]; decide +kernel
theorem j1_true (k : Nat) {a b c : Nat} (ha : a < 18446744073709551616) (hb : b < 18446744073709551616) (hc : c < 18446744073709551616) : transomlaw02_RealsThree.j1 (k + 1) a b c false = some true := by
  rw [transomlaw02_RealsThree.j1, if_neg (by simp), equal_eq ha hc, Option.bind_some, awake_true]
  by_cases h : sameR a c
  · rw [decide_eq_true h, if_pos rfl, equal_eq ha hb, Option.bind_some]
    by_cases h2 : sameR a b
    · rw [decide_eq_true h2, if_pos rfl]; rfl
    · rw [decide_eq_false h2, if_neg (by simp), cmp_eq ha hb, Option.bind_some, cmp_eq hb hc, Option.bind_some, if_pos (side ha hb hc h)]; rfl
  · rw [decide_eq_false h, if_neg (by simp)]; rfl
theorem RealsThree : transomlaw02_RealsThree.Pure := by
  intro a b c wa wb wc
  obtain ⟨a, rfl, ha⟩ := nat_of wa
  obtain ⟨b, rfl, hb⟩ := nat_of wb
  obtain ⟨c, rfl, hc⟩ := nat_of wc
  refine ⟨2, ?_⟩
  unfold transomlaw02_RealsThree.f
  rw [cmp_eq ha hb, Option.bind_some, cmp_eq hb ha, Option.bind_some, if_pos (cmp_neg a b), Option.bind_some, canon_eq, Option.bind_some, canon_eq, Option.bind_some]
  have e : ((cmpU a b == 0) != ((canon a : Int) == (canon b : Int))) = false := by
    by_cases h : canon a = canon b
    · rw [beq_iff_eq.2 ((cmp_zero ha hb).2 h), h]; simp
    · rw [beq_eq_false_iff_ne.2 (fun q => h ((cmp_zero ha hb).1 q)), beq_eq_false_iff_ne.2 (by omega)]; rfl
  rw [e, transomlaw02_RealsThree.j0, if_neg (by simp), cmp_eq ha hb, Option.bind_some]
  by_cases h1 : cmpU a b ≤ 0
  · rw [if_pos h1, cmp_eq hb hc, Option.bind_some]
    by_cases h2 : cmpU b c ≤ 0
    · rw [if_pos h2, cmp_eq ha hc, Option.bind_some, decide_eq_false (le_trans' h1 h2), j1_true 0 ha hb hc]
    · rw [if_neg h2, j1_true 0 ha hb hc]
  · rw [if_neg h1, j1_true 0 ha hb hc]
end Go.Proofs.Ytdcodlbelhbihaa.Pure
