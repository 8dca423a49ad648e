/- RealsOrder: of two numbers that are reals the lesser one's real comes first, and no number lies beside NaN. For every input; no conditions. -/
import Derived.Test.YtdcodlbelhbihaaPRealsOrderx2
import Derived.Test.YtdcodlbelhbihaaBRealsOrderRealsInt
namespace Go.Proofs.Ytdcodlbelhbihaa.Pure
set_option linter.unusedVariables false
set_option linter.unusedSimpArgs false
open Go.RowKit Go.Proofs.Ytdcodlbelhbihaa.PRealsOrder Go.Proofs.YtdcodlbelhbihaaW.PrintWords Go.Proofs.YtdcodlbelhbihaaW.PrintLast
open Go.Proofs.Ytdcodlbelhbihaa.Plain

theorem RealsOrder : transomlaw02_RealsOrder.Pure := by
  intro a b wa wb
  obtain ⟨a0, a1⟩ := wf_i64 wa
  obtain ⟨b0, b1⟩ := wf_i64 wb
  refine ⟨1, ?_⟩
  unfold transomlaw02_RealsOrder.f
  rw [from_eq a0 a1, Option.bind_some, from_eq b0 b1, Option.bind_some]
  by_cases ea : Fl.exact a.natAbs = true
  case neg => rw [if_neg ea, if_neg (by simp), transomlaw02_RealsOrder.j0, if_pos rfl, awake_true]; rfl
  rw [if_pos ea, if_pos rfl]
  by_cases eb : Fl.exact b.natAbs = true
  case neg =>
    rw [if_neg eb]
    show transomlaw02_RealsOrder.j0 1 _ _ _ _ true = _
    rw [transomlaw02_RealsOrder.j0, if_pos rfl, awake_true]; rfl
  rw [if_pos eb]
  have ha : a.natAbs < 18446744073709551616 := by omega
  have hb : b.natAbs < 18446744073709551616 := by omega
  have la := wd_lt ha
  have lb := wd_lt hb
  have na := near_inf ha
  have nb := near_inf hb
  have ra := (wd_rung ha).1
  have rb := (wd_rung hb).1
  have wa := wd_eq ha
  have wb := wd_eq hb
  have k1 := near_lt_iff ea eb
  have k2 := near_lt_iff eb ea
  have z1 := near_zero ea
  have z2 := near_zero eb
  have c1 : cmpU (wd a) (wd b) < 0 ↔ a < b := by
    unfold cmpU
    rw [keyU_wd ha, keyU_wd hb]
    split <;> split <;> split <;> (try split) <;> omega
  have c2 : sameR (wd a) (wd b) ↔ a = b := by
    unfold sameR
    rw [ra, rb]
    constructor
    · rintro ⟨_, _, h | ⟨h, h'⟩⟩
      · rw [wa, wb] at h
        split at h <;> split at h <;> omega
      · omega
    · rintro rfl
      exact ⟨Nat.le_of_lt na, Nat.le_of_lt nb, .inl rfl⟩
  have c3 : cmpU (wd a) 9221120237041090560 < 0 := by
    have kn : keyU 9221120237041090560 = 18444492273895866368 := by decide +kernel
    unfold cmpU
    rw [kn, keyU_wd ha]
    split <;> split <;> (try split) <;> omega
  rw [show (!true) = false from rfl, transomlaw02_RealsOrder.j0, if_neg (by simp), cmp_eq la lb, Option.bind_some]
  rw [if_pos (by rw [beq_iff_eq]; exact decide_eq_decide.2 c1.symm), equal_eq la lb, Option.bind_some]
  rw [if_pos (by
    rw [beq_iff_eq]
    by_cases e : a = b
    · rw [beq_iff_eq.2 e, decide_eq_true (c2.2 e)]
    · rw [beq_eq_false_iff_ne.2 e, decide_eq_false (fun h => e (c2.1 h))])]
  have hn : reals_Cmp.f (wd a : Int) 9221120237041090560 = some (cmpU (wd a) 9221120237041090560) := cmp_eq (b := 9221120237041090560) la (by omega)
  rw [hn, Option.bind_some, if_pos c3, awake_true]; rfl
end Go.Proofs.Ytdcodlbelhbihaa.Pure
