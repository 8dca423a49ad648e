/- UtfJoins: two texts that are valid are, one behind the other, and have all characters of both. For every input; no conditions. -/
import Derived.Test.YtognddakkfdifaaPUtfJoinsx
import Derived.Test.YtognddakkfdifaaBUtfJoinsUtfCount
namespace Go.Proofs.Ytognddakkfdifaa.Pure
set_option linter.unusedVariables false
set_option linter.unusedSimpArgs false
open Go.RowKit Go.Proofs.Ytognddakkfdifaa.PUtfJoins Go.Proofs.YtognddakkfdifaaW.PrintWords Go.Proofs.YtognddakkfdifaaW.PrintLast
open Go.Proofs.Ytognddakkfdifaa.Plain

theorem UtfJoins : transomlaw01_UtfJoins.Pure := by
  intro a b ha hb
  obtain ⟨k, hk⟩ : ∃ k : Nat, a.size + b.size + 100 ≤ k := ⟨_, Nat.le_refl _⟩
  refine ⟨k + 1, ?_⟩
  have stop : transomlaw01_UtfJoins.j0 (k + 1) a b true = some true := by
    rw [transomlaw01_UtfJoins.j0, if_pos rfl, awake_true (by omega)]; rfl
  unfold transomlaw01_UtfJoins.f
  by_cases c1 : (a.size : Int) > 2000
  · rw [if_pos c1, stop]
  · rw [if_neg c1]
    by_cases c2 : (b.size : Int) > 2000
    · rw [if_pos c2, stop]
    · rw [if_neg c2]
      obtain ⟨rs, p, h1⟩ := rd_ex _ a.data.toList (Nat.le_refl _)
      obtain ⟨qs, q, h2⟩ := rd_ex _ b.data.toList (Nat.le_refl _)
      rw [valid_eq h1 ha (by omega), Option.bind_some]
      cases p with
      | false => rw [if_neg (by simp), stop]
      | true =>
        rw [if_pos rfl, valid_eq h2 hb (by omega), Option.bind_some]
        cases q with
        | false => rw [show (!false) = true from rfl, stop]
        | true =>
          have h3 := rd_append h1 rfl h2
          rw [← append_data] at h3
          have hs : (a ++ b).size = a.size + b.size := by simp
          have l1 := rd_len h1
          have l2 := rd_len h2
          rw [← sz] at l1 l2
          rw [show (!true) = false from rfl, transomlaw01_UtfJoins.j0, if_neg (by simp), if_pos (by omega), valid_eq h3 (by omega) (by omega), Option.bind_some, if_pos rfl]
          rw [count_eq h3 (by omega) (by omega), Option.bind_some, count_eq h1 ha (by omega), Option.bind_some, count_eq h2 hb (by omega), Option.bind_some]
          rw [if_pos rfl, if_pos rfl, if_pos rfl, if_pos (by rw [w64id (by omega) (by omega), List.length_append]; omega), awake_true (by omega)]; rfl
end Go.Proofs.Ytognddakkfdifaa.Pure
