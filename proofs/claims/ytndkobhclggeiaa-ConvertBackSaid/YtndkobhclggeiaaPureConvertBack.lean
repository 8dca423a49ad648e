/- ConvertBack: what becomes of a value, made one of its own kind again, is the value. For every input; no conditions. -/
import Derived.Test.YtndkobhclggeiaaF5
import Derived.Test.YtndkobhclggeiaaF17
import Derived.Test.YtndkobhclggeiaaF18
import Derived.Test.YtndkobhclggeiaaConvBack
import Derived.Test.YtndkobhclggeiaaFew4
namespace Go.Proofs.Ytndkobhclggeiaa.Aev
open Go
set_option linter.unusedVariables false
set_option linter.unusedSimpArgs false
set_option maxRecDepth 100000
theorem awake_all (k : Nat) : transomlaw07_awake.f (k + 300) = some true := by kernel_rfl
theorem awake_ge (k : Nat) (h : 300 ≤ k) : transomlaw07_awake.f k = some true := by
  obtain ⟨j, rfl⟩ : ∃ j, k = j + 300 := ⟨k - 300, by omega⟩
  exact awake_all j
theorem equal_zero (k : Nat) (hk : 20 ≤ k) : transomref02_Equal.f k 0 9223372036854775808 = some true := by
  obtain ⟨k, rfl⟩ : ∃ j, k = j + 3 := ⟨k - 3, by omega⟩
  have c0 : ∀ k, transomref02_Class.f (k + 1) 0 = some 3 := fun k => refclass_eq (n := 0) (by omega) k
  have c1 : ∀ k, transomref02_Class.f (k + 1) 9223372036854775808 = some 3 := fun k => refclass_eq (n := 9223372036854775808) (by omega) k
  have g : ((3 : Int) == 1) = false := rfl
  have g2 : ((0 : Int) == 9223372036854775808) = false := rfl
  simp only [transomref02_Equal.f, transomref02_Equal.c, transomref02_Equal.s0, transomref02_Equal.s0c, transomref02_Equal.s1, transomref02_Equal.s1c, c0, c1, g, g2, beq_self_eq_true, cond_true, cond_false, Option.bind_some, Option.bind_fun_some]
theorem Pure.ConvertBack (x0 : Int × (Int × (Int × (ByteArray × Unit)))) (x1 : Int) (h0 : Fit (.pair (.int .i64) (.pair (.int .i64) (.pair (.int .u64) (.pair .str .unit)))) x0) (h1 : Fit (.int .i64) x1) : ∃ k, transomlaw07_ConvertBack.f k x0.1 x0.2.1 x0.2.2.1 x0.2.2.2.1 x1 = some true := by
  obtain ⟨k, hk⟩ : ∃ k, 9000 ≤ k := ⟨9000, Nat.le_refl _⟩
  refine ⟨k + 1 + 1 + 1, ?_⟩
  have aw3 := awake_ge (k + 1 + 1 + 1) (by omega)
  have aw2 := awake_ge (k + 1 + 1) (by omega)
  have aw1 := awake_ge (k + 1) (by omega)
  have aw0 := awake_ge k (by omega)
  obtain ⟨a0, a1, a2, a3, ⟨⟩⟩ := x0
  obtain ⟨_, f1, f2, _⟩ := h0
  obtain ⟨b0, b1⟩ := fit_i64 f1
  obtain ⟨n, hn, hn2⟩ := nat_of_u64 f2
  simp only at b0 b1 hn ⊢
  subst hn
  rw [ba_of a3]
  generalize a3.data.toList = s
  simp only [transomlaw07_ConvertBack.f, transomlaw07_ConvertBack.c, few04, ba_size, aw3, Option.bind_some, Option.bind_fun_some]
  by_cases hs : s.length ≤ 2000
  · rw [if_pos hs]
    have g : ((1 : Int) == 0) = false := rfl
    have t1 := to_eq (a0 := a0) (t := x1) b0 b1 hn2 s (by omega) (k + 1 + 1 + 1) (by omega)
    simp only [g, cond_false, t1, Option.bind_some]
    have stop : ∀ y0 y1 y2 y3 y4 y5 y6 y7 y8 y9 y10 y11, transomlaw07_ConvertBack.s0 (k + 1 + 1 + 1) x1 true y0 y1 y2 y3 y4 y5 y6 y7 y8 y9 y10 y11 = some true := by
      intros
      simp only [transomlaw07_ConvertBack.s0, transomlaw07_ConvertBack.s0c, cond_true, aw2, Option.bind_some]
    cases hR : toC a0 a1 n s x1 with
    | no e =>
      have he := toC_no hR
      have q : (encC (.no e)).2.2.2.2 = e := rfl
      have q0 : (encC (.no e)).1 = 0 := rfl
      have q1 : (encC (.no e)).2.1 = 0 := rfl
      have q2 : (encC (.no e)).2.2.1 = ((0 : Nat) : Int) := rfl
      have q3 : (encC (.no e)).2.2.2.1 = mkB [] := rfl
      have t2 := to_eq (a0 := 0) (a1 := 0) (t := a0) (by omega) (by omega) (n := 0) (by omega) [] (by simp) (k + 1 + 1 + 1) (by simp; omega)
      simp only [q, q0, q1, q2, q3, t2, bne_iff_ne.2 he, cond_true, stop, Option.bind_some]
    | ok t' b m u =>
      obtain ⟨⟨d0, d1⟩, d2, d3⟩ := toC_in b0 b1 hn2 (by omega) hR
      have q : (encC (.ok t' b m u)).2.2.2.2 = 0 := rfl
      have q0 : (encC (.ok t' b m u)).1 = t' := rfl
      have q1 : (encC (.ok t' b m u)).2.1 = b := rfl
      have q2 : (encC (.ok t' b m u)).2.2.1 = (m : Int) := rfl
      have q3 : (encC (.ok t' b m u)).2.2.2.1 = mkB u := rfl
      have t2 := to_eq (a0 := t') (t := a0) d0 d1 d2 u (by omega) (k + 1 + 1 + 1) (by omega)
      simp only [q, q0, q1, q2, q3, t2, bne_self_eq_false, cond_false, Option.bind_some]
      cases hR2 : toC t' b m u a0 with
      | no e =>
        have he := toC_no hR2
        have r : (encC (.no e)).2.2.2.2 = e := rfl
        simp only [r, bne_iff_ne.2 he, stop]
      | ok p c qn w =>
        have r : (encC (.ok p c qn w)).2.2.2.2 = 0 := rfl
        have r0 : (encC (.ok p c qn w)).1 = p := rfl
        have r1 : (encC (.ok p c qn w)).2.1 = c := rfl
        have r2 : (encC (.ok p c qn w)).2.2.1 = (qn : Int) := rfl
        have r3 : (encC (.ok p c qn w)).2.2.2.1 = mkB w := rfl
        have bc := back_core b0 b1 hn2 hR hR2
        simp only [r, r0, r1, r2, r3, bne_self_eq_false, transomlaw07_ConvertBack.s0, transomlaw07_ConvertBack.s0c, cond_false, transomlaw07_ConvertBack.s1, transomlaw07_ConvertBack.s1c, Option.bind_fun_some]
        have same : p = a0 ∧ c = a1 ∧ qn = n ∧ w = s → transomlaw07_ConvertBack.s3 (k + 1) false a0 a1 (n : Int) (mkB s) p c (qn : Int) (mkB w) = some true := by
          rintro ⟨rfl, rfl, rfl, rfl⟩
          simp only [transomlaw07_ConvertBack.s3, transomlaw07_ConvertBack.s3c, cond_false, same_eq, and_self, decide_true, cond_true, aw0, Option.bind_some]
        by_cases z3 : a0 = 3
        · subst z3
          have hp : p = 3 := by rcases bc with ⟨z, _⟩ | ⟨_, z, _⟩ | ⟨z, _⟩ <;> omega
          have hq : qn = n ∨ (qn = 0 ∧ n = 9223372036854775808) := by
            rcases bc with ⟨_, _, z, _⟩ | ⟨_, _, z⟩ | ⟨z, _⟩
            · exact Or.inl z
            · exact Or.inr z
            · omega
          subst hp
          simp only [beq_self_eq_true, cond_true, aw1, Option.bind_some]
          rcases hq with rfl | ⟨rfl, rfl⟩
          · simp only [beq_self_eq_true, cond_true, transomlaw07_ConvertBack.s2, transomlaw07_ConvertBack.s2c]
          · have e := equal_zero (k + 1) (by omega)
            have e : transomref02_Equal.f (k + 1) ((0 : Nat) : Int) ((9223372036854775808 : Nat) : Int) = some true := e
            have gg : (((0 : Nat) : Int) == ((9223372036854775808 : Nat) : Int)) = false := rfl
            simp only [gg, cond_false, e, cond_true, Option.bind_some, transomlaw07_ConvertBack.s2, transomlaw07_ConvertBack.s2c]
        · rw [beq_eq_false_iff_ne.2 z3, cond_false]
          by_cases z4 : a0 = 4
          · subst z4
            simp only [beq_self_eq_true, cond_true]
            by_cases y3 : x1 = 3
            · subst y3
              simp only [beq_self_eq_true, cond_true]
              by_cases hm : (m : Int) = 9221120237041090560
              · rw [beq_iff_eq.2 hm]
                have hw : w.length = 8 := by
                  rcases bc with ⟨rfl, rfl, rfl, rfl⟩ | ⟨z, _⟩ | ⟨_, _, _, z⟩
                  · have := (toC_open (by omega) hR).2.2
                    have this : cBytes w 3 = .ok t' b m u := this
                    unfold cBytes at this
                    rw [if_neg (by omega)] at this
                    split at this
                    · simp at this
                    · rename_i h8; simpa using h8
                  · omega
                  · exact z
                have g8 : ((w.length : Int) == 8) = true := by rw [beq_iff_eq]; omega
                simp only [transomlaw07_ConvertBack.s3, transomlaw07_ConvertBack.s3c, cond_true, ba_size, g8, aw0, Option.bind_some]
              · rw [beq_eq_false_iff_ne.2 hm]
                refine same ?_
                rcases bc with z | ⟨z, _⟩ | ⟨_, _, z, _⟩
                · exact z
                · omega
                · exact absurd (by rw [z]; rfl) hm
            · rw [beq_eq_false_iff_ne.2 y3, cond_false]
              refine same ?_
              rcases bc with z | ⟨z, _⟩ | ⟨_, z, _⟩
              · exact z
              · omega
              · omega
          · rw [beq_eq_false_iff_ne.2 z4, cond_false]
            refine same ?_
            rcases bc with z | ⟨z, _⟩ | ⟨z, _⟩
            · exact z
            · omega
            · omega
  · rw [if_neg hs]; rfl
end Go.Proofs.Ytndkobhclggeiaa.Aev
