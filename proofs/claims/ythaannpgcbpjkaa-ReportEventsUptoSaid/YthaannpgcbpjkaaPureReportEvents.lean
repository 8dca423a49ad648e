
/- The plain law: what the law's function computes is true. -/
import Derived.Test.YthaannpgcbpjkaaF3
import Derived.Test.YthaannpgcbpjkaaF7
import Derived.Test.YthaannpgcbpjkaaRepE
namespace Go.Proofs.Ythaannpgcbpjkaa.Aev
open Go
set_option linter.unusedVariables false
set_option linter.unusedSimpArgs false
set_option maxRecDepth 100000
theorem awake_all (k : Nat) : transomlaw42_awake.f (k + 60) = some true := by kernel_rfl
theorem bk_event (x : D_api_Event) : bk T_api_Event x = 0 + (0 + (0 + (0 + (bk (.sl T_api_Op) x.2.2.2.2.1 + (bk (.sl T_api_Reply) x.2.2.2.2.2.1 + 0))))) := rfl
theorem bk_reply (r : Rp) : bk T_api_Reply r = 0 + (bk (.sl (.sl T_api_Value)) r.2.1 + 0) := rfl
theorem bk_told (x : D_api_Told) : bk T_api_Told x = 0 + ((0 + (bk (.sl (.sl T_api_Value)) x.2.1.2.1 + 0)) + 0) := rfl
theorem okp {r : Rp} (hf : Fit T_api_Reply r) (hb : bk (.sl (.sl T_api_Value)) r.2.1 ≤ 1048576) : OkP r := by
  obtain ⟨f1, f2, _⟩ := hf
  exact ⟨fit_i64 f1, okr f2 hb, hb⟩
/-- the law's loop over replies -/
theorem law_s2 (x : D_api_Event) (y : D_api_Told) (aw : ∀ k, 100 ≤ k → transomlaw42_awake.f k = some true) (F : ∀ k, 9100000 ≤ k → ∃ t, report_Event.f k x.1 x.2.1 x.2.2.1 x.2.2.2.1 x.2.2.2.2.1 x.2.2.2.2.2.1 = some t ∧ transomref42_Event.f k x.1 x.2.1 x.2.2.1 x.2.2.2.1 x.2.2.2.2.1 x.2.2.2.2.2.1 = some t)
    (T : ∀ k, 9100000 ≤ k → ∃ t, report_Told.f k y.1 y.2.1.1 y.2.1.2.1 = some t ∧ transomref42_Told.f k y.1 y.2.1.1 y.2.1.2.1 = some t) (hl : x.2.2.2.2.2.1.length ≤ 20) : ∀ (m i : Nat), i + m = x.2.2.2.2.2.1.length → ∀ k, m + 9100000 < k →
    transomlaw42_ReportEvents.s2 k (i : Int) x.1 x.2.1 x.2.2.1 x.2.2.2.1 x.2.2.2.2.1 x.2.2.2.2.2.1 y.1 y.2.1.1 y.2.1.2.1 = some true := by
  intro m
  induction m with
  | zero =>
    intro i hi k hk
    obtain ⟨k, rfl⟩ : ∃ q, k = q + 1 := ⟨k - 1, by omega⟩
    have e : ¬ (i : Int) < (x.2.2.2.2.2.1.length : Int) := by omega
    obtain ⟨t, a1, a2⟩ := F k (by omega)
    obtain ⟨u, b1, b2⟩ := T k (by omega)
    simp only [transomlaw42_ReportEvents.s2, transomlaw42_ReportEvents.s2c, e, decide_false, cond_false, a1, a2, b1, b2, aw k (by omega), Option.bind_some, beq_self_eq_true, cond_true]
  | succ m ih =>
    intro i hi k hk
    obtain ⟨k, rfl⟩ : ∃ q, k = q + 1 := ⟨k - 1, by omega⟩
    have hlt : i < x.2.2.2.2.2.1.length := by omega
    have e0 : (i : Int) < (x.2.2.2.2.2.1.length : Int) := by omega
    have e1 : (0 : Int) ≤ (i : Int) := by omega
    have e2 : IntKind.wrap IntKind.i64 ((i : Int) + 1) = ((i + 1 : Nat) : Int) := by rw [i64w (by omega) (by omega)]; omega
    have := ih (i + 1) (by omega) k (by omega)
    simp only [transomlaw42_ReportEvents.s2, transomlaw42_ReportEvents.s2c, e0, e1, e2, this, aw k (by omega), decide_true, Bool.and_self, cond_true, Option.bind_some, Option.bind_fun_some]
    cases decide (((elem T_api_Reply x.2.2.2.2.2.1 (i : Int)).2.1.length : Int) > 70) <;> rfl
theorem Pure.ReportEvents (x0 : D_api_Event) (x1 : D_api_Told) (h0 : Fit T_api_Event x0) (h1 : Fit T_api_Told x1) (hb : bk T_api_Event x0 + bk T_api_Told x1 ≤ 1048576) : ∃ k, transomlaw42_ReportEvents.f k x0.1 x0.2.1 x0.2.2.1 x0.2.2.2.1 x0.2.2.2.2.1 x0.2.2.2.2.2.1 x1.1 x1.2.1.1 x1.2.1.2.1 = some true := by
  obtain ⟨k, hk⟩ : ∃ k, k = 9200000 := ⟨_, rfl⟩
  refine ⟨k + 2, ?_⟩
  have aw : ∀ k, 100 ≤ k → transomlaw42_awake.f k = some true := fun k hk => by
    obtain ⟨q, rfl⟩ : ∃ q, k = q + 60 := ⟨k - 60, by omega⟩
    exact awake_all q
  rw [bk_event, bk_told] at hb
  obtain ⟨f0, f1, f2, f3, f4, f5, _⟩ := h0
  obtain ⟨_, ⟨g1, g2, _⟩, _⟩ := h1
  obtain ⟨r, hr1, hr2⟩ := few13s x0.2.2.2.2.1 20 (by omega) f4 (k + 2) (by omega)
  have hr1 : transomlaw13_FewOps.f (k + 2) x0.2.2.2.2.1 20 = some r := hr1
  have S0 : transomlaw42_ReportEvents.s0 (k + 2) true x0.1 x0.2.1 x0.2.2.1 x0.2.2.2.1 x0.2.2.2.2.1 x0.2.2.2.2.2.1 x1.1 x1.2.1.1 x1.2.1.2.1 = some true := by
    simp only [transomlaw42_ReportEvents.s0, transomlaw42_ReportEvents.s0c, cond_true, aw (k + 1) (by omega), Option.bind_some]
  simp only [transomlaw42_ReportEvents.f, transomlaw42_ReportEvents.c, hr1, Option.bind_some, Option.bind_fun_some, S0]
  by_cases c0 : r = 0
  · rw [beq_iff_eq.2 c0, cond_true]
  · rw [beq_eq_false_iff_ne.2 c0, cond_false]
    obtain ⟨hl, ho⟩ := hr2.resolve_left c0
    by_cases c1 : (x0.2.2.2.2.2.1.length : Int) > 20
    · rw [decide_eq_true c1, cond_true]
    · rw [decide_eq_false c1, cond_false]
      by_cases c2 : (x1.2.1.2.1.length : Int) > 70
      · rw [decide_eq_true c2, S0]
      · rw [decide_eq_false c2]
        have hT : bk (.sl (.sl T_api_Value)) x1.2.1.2.1 ≤ 1048576 := by omega
        have hR : bk (.sl T_api_Reply) x0.2.2.2.2.2.1 ≤ 1048576 := by omega
        have hrl : x0.2.2.2.2.2.1.length ≤ 20 := by omega
        have hP : ∀ r ∈ x0.2.2.2.2.2.1, OkP r := fun r hr => by
          have := mem_bk (e := T_api_Reply) hr
          rw [bk_reply] at this
          exact okp (f5.2 r hr) (by omega)
        have F := fun k hk => event_same (fit_i64 f0) (fit_i64 f1) (fit_i64 f2) (fit_i64 f3) hl ho (Nat.le_trans hrl (by decide)) hP k hk
        have T := fun (k : Nat) (hk : 9100000 ≤ k) => told_same x1.1 (fit_i64 g1).1 (fit_i64 g1).2 (okr g2 hT) hT k (Nat.le_trans (by decide) hk)
        have := law_s2 x0 x1 aw F T hrl x0.2.2.2.2.2.1.length 0 (Nat.zero_add _) k (by omega)
        simp only [transomlaw42_ReportEvents.s0, transomlaw42_ReportEvents.s0c, transomlaw42_ReportEvents.s1, transomlaw42_ReportEvents.s1c, cond_false, Option.bind_fun_some]
        exact this
end Go.Proofs.Ythaannpgcbpjkaa.Aev
