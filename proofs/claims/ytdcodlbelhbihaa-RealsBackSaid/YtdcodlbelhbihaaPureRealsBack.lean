/- RealsBack: a key stands for the real that it is of; a number that is a real is that real's number; a real that is a number's is that number's real, but for the sign of 0. For every input; no conditions. -/
import Derived.Test.YtdcodlbelhbihaaPRealsBackx2
import Derived.Test.YtdcodlbelhbihaaBRealsBackRealsInt
namespace Go.Proofs.Ytdcodlbelhbihaa.Pure
set_option linter.unusedVariables false
set_option linter.unusedSimpArgs false
open Go.RowKit Go.Proofs.Ytdcodlbelhbihaa.PRealsBack Go.Proofs.YtdcodlbelhbihaaW.PrintWords Go.Proofs.YtdcodlbelhbihaaW.PrintLast
open Go.Proofs.Ytdcodlbelhbihaa.Plain

theorem canon_canon (n : Nat) : canon (canon n) = canon n := by
  unfold canon
  by_cases c : Fl.inf < Fl.rung n
  · rw [if_pos c, if_pos (show Fl.inf < Fl.rung nan by decide)]
  · rw [if_neg c, if_neg c]
theorem back_key {n : Nat} (h : n < 18446744073709551616) : reals_Back.f (keyU n : Int) = some ((canon n : Int), true) := by
  have hc := canon_lt h
  have hk := keyU_lt h
  have hb : reals_Back.b (keyU n : Int) = (canon n : Int) := by
    unfold reals_Back.b keyU
    split <;> split <;> omega
  unfold reals_Back.f
  rw [if_pos (by omega), hb, Int.toNat_natCast, if_neg]
  rintro ⟨q1, q2⟩
  have := canon_canon n
  unfold canon at this q1 q2
  by_cases c : Fl.inf < Fl.rung n
  · rw [if_pos c] at q2; exact q2 rfl
  · rw [if_neg c] at q1; exact c q1
theorem to_wd {n : Int} (h0 : -9223372036854775808 ≤ n) (h1 : n ≤ 9223372036854775807) (he : Fl.exact n.natAbs = true) : reals_ToInt.f (wd n : Int) = some (n, true) := by
  have hn : n.natAbs < 18446744073709551616 := by omega
  have hw := wd_lt hn
  obtain ⟨hr, hs⟩ := wd_rung hn
  have hi := near_inf hn
  have hinf : Fl.inf = 9218868437227405312 := rfl
  have hT := Fl.T_exact he
  have hkey : Fl.key (wd n) = if n < 0 then -(Fl.near n.natAbs : Int) else (Fl.near n.natAbs : Int) := by
    unfold Fl.key; rw [hr, hs]
    by_cases c : n < 0
    · rw [decide_eq_true c, if_pos rfl, if_pos c]
    · rw [decide_eq_false c, if_neg (by simp), if_neg c]
  have bound : ∀ B : Nat, n.natAbs < B → 4890909195324358656 ≤ Fl.near n.natAbs → 9223372036854775808 < B := by
    intro B hB hge
    have := Fl.T_mono hge
    rw [Fl.T_edge, hT] at this
    omega
  have lo : -4890909195324358656 ≤ Fl.key (wd n) := by
    rw [hkey]
    by_cases c : n < 0
    · rw [if_pos c]
      rcases Nat.lt_or_ge 4890909195324358656 (Fl.near n.natAbs) with d | d
      · exfalso
        have e0 : Fl.exact 9223372036854775808 = true := by decide +kernel
        have e1 : Fl.near 9223372036854775808 = 4890909195324358656 := by decide +kernel
        have := (near_lt_iff e0 he).1 (by rw [e1]; exact d)
        omega
      · omega
    · rw [if_neg c]; omega
  have hiK : Fl.key (wd n) < 4890909195324358656 := by
    rw [hkey]
    by_cases c : n < 0
    · rw [if_pos c]; omega
    · rw [if_neg c]
      rcases Nat.lt_or_ge (Fl.near n.natAbs) 4890909195324358656 with d | d
      · omega
      · have := bound 9223372036854775808 (by omega) d; omega
  have his : reals_ToInt.is (wd n) = true := by
    unfold reals_ToInt.is
    rw [decide_eq_true (show Fl.rung (wd n) ≤ Fl.inf by rw [hr]; omega), decide_eq_true lo, decide_eq_true hiK, hr, hT, decide_eq_true rfl]; rfl
  unfold reals_ToInt.f
  rw [if_pos (by omega), Int.toNat_natCast, if_pos his, hr, hs, hT]
  have : Fl.sg (decide (n < 0)) n.natAbs = n := by
    unfold Fl.sg
    by_cases c : n < 0
    · rw [decide_eq_true c, if_pos rfl]; omega
    · rw [decide_eq_false c, if_neg (by simp)]; omega
  rw [this]
/-- What a real that is a number's is. -/
theorem to_some {b : Nat} (h : b < 18446744073709551616) : reals_ToInt.f (b : Int) = some (0, false) ∨ ∃ k : Int, reals_ToInt.f (b : Int) = some (k, true) ∧ -9223372036854775808 ≤ k ∧ k ≤ 9223372036854775807 ∧ Fl.exact k.natAbs = true ∧ sameR (wd k) b ∧ (wd k ≠ b → Fl.rung b = 0) := by
  unfold reals_ToInt.f
  rw [if_pos (by omega), Int.toNat_natCast]
  by_cases his : reals_ToInt.is b = true
  case neg => exact .inl (by rw [if_neg his])
  rw [if_pos his]
  right
  unfold reals_ToInt.is at his
  simp only [Bool.and_eq_true, decide_eq_true_eq] at his
  obtain ⟨⟨⟨h1, h2⟩, h3⟩, h4⟩ := his
  have hk := Fl.rung_key b
  have hinf : Fl.inf = 9218868437227405312 := rfl
  have hri : Fl.rung b < Fl.inf := by omega
  have hT : Fl.T (Fl.rung b) ≤ 9223372036854775808 := by have := Fl.T_mono (show Fl.rung b ≤ 4890909195324358656 by omega); rw [Fl.T_edge] at this; exact this
  have hpos : Fl.neg b = false → Fl.T (Fl.rung b) ≤ 9223372036854774784 := by
    intro hn
    have e : Fl.key b = (Fl.rung b : Int) := by unfold Fl.key; rw [hn]; simp
    have := Fl.T_mono (show Fl.rung b ≤ 4890909195324358655 by omega)
    rw [Fl.T_below] at this
    exact this
  have hex := Fl.T_whole hri
  have habs : (Fl.sg (Fl.neg b) (Fl.T (Fl.rung b))).natAbs = Fl.T (Fl.rung b) := by unfold Fl.sg; split <;> omega
  have hz := near_zero hex
  rw [h4] at hz
  have hwd := wd_eq (n := Fl.sg (Fl.neg b) (Fl.T (Fl.rung b))) (by rw [habs]; omega)
  rw [habs, h4] at hwd
  have hneg : Fl.neg b = true ↔ 9223372036854775808 ≤ b := by
    unfold Fl.neg; rw [beq_iff_eq]; omega
  have hsg : Fl.sg (Fl.neg b) (Fl.T (Fl.rung b)) < 0 ↔ (Fl.neg b = true ∧ Fl.T (Fl.rung b) ≠ 0) := by
    unfold Fl.sg; split <;> rename_i q <;> constructor <;> intro hh <;> first | exact ⟨q, by omega⟩ | (exfalso; exact q hh.1) | omega
  have hrb : Fl.rung b = b % 9223372036854775808 := rfl
  have main : wd (Fl.sg (Fl.neg b) (Fl.T (Fl.rung b))) ≠ b → Fl.rung b = 0 := by
    intro hne
    by_cases z : Fl.rung b = 0
    · exact z
    · exfalso; apply hne
      rw [hwd]
      by_cases s : Fl.neg b = true
      · rw [if_pos (hsg.2 ⟨s, fun e => z (hz.2 e)⟩)]
        have := hneg.1 s; omega
      · rw [if_neg (fun e => s (hsg.1 e).1)]
        have : ¬ 9223372036854775808 ≤ b := fun e => s (hneg.2 e)
        omega
  refine ⟨_, rfl, ?_, ?_, ?_, ?_, main⟩
  · unfold Fl.sg; split <;> omega
  · unfold Fl.sg
    cases hn : Fl.neg b
    · have := hpos hn; rw [if_neg (by simp)]; omega
    · rw [if_pos rfl]; omega
  · rw [habs]; exact hex
  · have hw := (wd_rung (n := Fl.sg (Fl.neg b) (Fl.T (Fl.rung b))) (by rw [habs]; omega)).1
    rw [habs, h4] at hw
    refine ⟨by rw [hw]; exact h1, h1, ?_⟩
    by_cases e : wd (Fl.sg (Fl.neg b) (Fl.T (Fl.rung b))) = b
    · exact .inl e
    · exact .inr ⟨by rw [hw]; exact main e, main e⟩
theorem class_zero' {n : Nat} (h : n < 18446744073709551616) (hz : Fl.rung n = 0) : reals_Class.f (n : Int) = some 3 := by
  unfold reals_Class.f
  rw [if_pos (by omega), Int.toNat_natCast, hz]; rfl
theorem j1_true (k : Nat) {b : Nat} (h : b < 18446744073709551616) : transomlaw02_RealsBack.j1 (k + 1) (b : Int) = some true := by
  rw [transomlaw02_RealsBack.j1]
  rcases to_some h with e | ⟨n, e, h0, h1, hx, hs, hz⟩
  · rw [e, Option.bind_some, if_neg (by simp), awake_true]; rfl
  · rw [e, Option.bind_some, if_pos rfl, from_eq h0 h1, Option.bind_some, if_pos hx, if_pos rfl, equal_eq (wd_lt (by omega)) h, Option.bind_some, decide_eq_true hs, if_pos rfl, awake_true]
    by_cases c : wd n = b
    · rw [if_pos (show (wd n : Int) = (b : Int) by omega)]; rfl
    · rw [if_neg (show ¬ (wd n : Int) = (b : Int) by omega), class_zero' h (hz c), Option.bind_some, if_pos rfl]; rfl
theorem RealsBack : transomlaw02_RealsBack.Pure := by
  intro n b wn wb
  obtain ⟨n0, n1⟩ := wf_i64 wn
  obtain ⟨b, rfl, h⟩ := nat_of wb
  refine ⟨2, ?_⟩
  unfold transomlaw02_RealsBack.f
  rw [key_eq h, Option.bind_some, back_key h, Option.bind_some, if_pos rfl, canon_eq, Option.bind_some]
  rw [show ((canon b : Int) != (canon b : Int)) = false by rw [bne_eq_false_iff_eq], transomlaw02_RealsBack.j0, if_neg (by simp), from_eq n0 n1, Option.bind_some]
  by_cases hx : Fl.exact n.natAbs = true
  · rw [if_pos hx, if_pos rfl, to_wd n0 n1 hx, Option.bind_some, if_pos rfl, if_pos rfl, j1_true 0 h]
  · rw [if_neg hx, if_neg (by simp), j1_true 0 h]
end Go.Proofs.Ytdcodlbelhbihaa.Pure
