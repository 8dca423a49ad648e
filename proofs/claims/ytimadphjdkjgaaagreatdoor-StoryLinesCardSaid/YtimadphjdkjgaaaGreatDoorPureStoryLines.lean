
/- The plain law: what the law's function computes is true. -/
import Derived.Test.YtimadphjdkjgaaaGreatDoorF2
import Derived.Test.YtimadphjdkjgaaaGreatDoorF6
import Derived.Test.YtimadphjdkjgaaaGreatDoorF7
import Derived.Test.YtimadphjdkjgaaaGreatDoorF10
import Derived.Test.YtimadphjdkjgaaaGreatDoorF11
import Derived.Test.YtimadphjdkjgaaaGreatDoorLineF
import Derived.Test.YtimadphjdkjgaaaGreatDoorLineE
namespace Go.Proofs.YtimadphjdkjgaaaGreatDoor.Aev
open Go
set_option linter.unusedVariables false
set_option linter.unusedSimpArgs false
set_option maxRecDepth 100000
theorem awake_all (k : Nat) : transomlaw37_awake.f (k + 400) = some true := by kernel_rfl
theorem change_eq (c : Ch) (hc : OkCh c) (k : Nat) (hk : 900000 ≤ k) : story_Change.f k c = some (txtP (chP c)) := by
  obtain ⟨b, h1, h2, h3⟩ := refJ_txt (rchange c hc k hk)
  have T0 := text0_eq (chP c) (fun z => Nat.le_trans (h3 z) (by decide)) k
  have w := change1_w c hc 0 k hk
  have e0 : ∀ p : P2, sq ((0, []) : P2) p = p := sq_one
  simp only [story_Change.f, story_Change.c, w, Option.bind_some]
  by_cases q : 1 ≤ c.1 ∧ c.1 ≤ 6
  · rw [if_pos q, e0]
    simp only [T0, Option.bind_some, Sum.elim_inl]
  · rw [if_neg q]
    have hP : chP c = (1, []) := by
      unfold chP
      rw [if_neg (by omega), if_neg (by omega), if_neg (by omega), if_neg (by omega), if_neg (by omega), if_neg (by omega)]
    rw [hP]
    have t1 := text1_eq 1 (by omega) k
    simp only [t1, Option.bind_some, Sum.elim_inr]
    rfl
theorem txt_of {r : Option (ByteArray × Int)} {p : P2} {n : Nat} (h : RefJ r p n) (he : ∀ t, r = some t → t.2 ≠ 0 → t.1 = mkW []) : r = some (txtP p) := by
  obtain ⟨b, h1, h2, h3⟩ := refJ_txt h
  unfold txtP
  by_cases c : p.1 = 0
  · rw [if_pos c, h1, h2 c, c]
  · rw [if_neg c, h1]
    have := he _ h1 c
    simp only at this
    rw [this]
theorem Pure.StoryLines (x0 : D_api_Step) (h0 : Fit T_api_Step x0) : ∃ k, transomlaw37_StoryLines.f k x0 = some true := by
  obtain ⟨k, hk⟩ : ∃ k, k = 1000000 := ⟨_, rfl⟩
  refine ⟨k + 2, ?_⟩
  have aw : transomlaw37_awake.f (k + 2) = some true := by
    obtain ⟨q, hq⟩ : ∃ q, k + 2 = q + 400 := ⟨k + 2 - 400, by omega⟩
    rw [hq]; exact awake_all q
  obtain ⟨f0, f1, f2, _⟩ := h0
  obtain ⟨r, hr1, hr2⟩ := few13 x0.2.2.1 f2 (k + 2) (by omega)
  simp only [transomlaw37_StoryLines.f, transomlaw37_StoryLines.c, hr1, aw, Option.bind_some]
  by_cases c0 : r = 0
  · rw [beq_iff_eq.2 c0, cond_true]
  · rw [beq_eq_false_iff_ne.2 c0, cond_false]
    have ho := hr2.resolve_left c0
    have hs : OkS x0 := { at' := fit_i64 f1, op := ho }
    have a := line_eq x0 hs (k + 2) (by omega)
    have b := txt_of (rLine x0 hs (k + 2) (by omega)) (fun t h he => rline_err h he)
    have c := change_eq x0.2.2.1.2.2.2.2.2.2.1 ho.ch (k + 2) (by omega)
    have d := txt_of (rchange x0.2.2.1.2.2.2.2.2.2.1 ho.ch (k + 2) (by omega)) (fun t h he => rchange_err h he)
    simp only [a, b, c, d, Option.bind_some, beq_self_eq_true, cond_true]
end Go.Proofs.YtimadphjdkjgaaaGreatDoor.Aev
