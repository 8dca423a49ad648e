/- Package reals as plain functions: the real that a number is. -/
import Derived.Test.YtdcodlbelhbihaaBRealsBackRealsKey
namespace Go.Proofs.Ytdcodlbelhbihaa.PRealsBack
set_option linter.unusedVariables false
set_option linter.unusedSimpArgs false
open Go.RowKit Go.Proofs.YtdcodlbelhbihaaW.PrintWords Go.Proofs.Ytdcodlbelhbihaa.Plain

/-- The word of a number. -/
def wd (n : Int) : Nat := Ieee.double.word (decide (n < 0)) (Fl.near n.natAbs)
theorem wd_eq {n : Int} (h : n.natAbs < 18446744073709551616) : wd n = if n < 0 then 9223372036854775808 + Fl.near n.natAbs else Fl.near n.natAbs := by
  unfold wd Ieee.Format.word
  rw [Fl.sw]
  by_cases c : n < 0
  · rw [decide_eq_true c, if_pos rfl, if_pos c]
  · rw [decide_eq_false c, if_neg (by simp), if_neg c]
theorem near_inf {m : Nat} (h : m < 18446744073709551616) : Fl.near m < 9218868437227405312 := Fl.near_lt h
theorem wd_lt {n : Int} (h : n.natAbs < 18446744073709551616) : wd n < 18446744073709551616 := by
  have := near_inf h
  rw [wd_eq h]; split <;> omega
theorem wd_rung {n : Int} (h : n.natAbs < 18446744073709551616) : Fl.rung (wd n) = Fl.near n.natAbs ∧ Fl.neg (wd n) = decide (n < 0) :=
  Fl.word_rung (Nat.le_of_lt (Fl.near_lt h))
theorem from_eq {n : Int} (h0 : -9223372036854775808 ≤ n) (h1 : n ≤ 9223372036854775807) :
    reals_FromInt.f n = some (if Fl.exact n.natAbs = true then ((wd n : Int), true) else (0, false)) := by
  unfold reals_FromInt.f
  rw [if_pos ⟨h0, h1⟩]; rfl
theorem near_lt_iff {m n : Nat} (hm : Fl.exact m = true) (hn : Fl.exact n = true) : Fl.near m < Fl.near n ↔ m < n := by
  have hp : 0 < 2 ^ Fl.Z := Nat.two_pow_pos _
  rw [← Fl.V_lt_iff, Fl.V_exact hm, Fl.V_exact hn]
  exact Nat.mul_lt_mul_right hp
theorem near_zero {m : Nat} (hm : Fl.exact m = true) : Fl.near m = 0 ↔ m = 0 := by
  have h1 := near_lt_iff (m := 0) (n := m) (by decide) hm
  have h0 : Fl.near 0 = 0 := by simp [Fl.near]
  rw [h0] at h1
  omega
theorem keyU_num {n : Nat} (h : Fl.rung n ≤ Fl.inf) : keyU n = if n < 9223372036854775808 then n + 9223372036854775808 else 18446744073709551615 - n := by
  unfold keyU; rw [canon_num h]
theorem keyU_wd {n : Int} (h : n.natAbs < 18446744073709551616) : keyU (wd n) = if n < 0 then 9223372036854775807 - Fl.near n.natAbs else 9223372036854775808 + Fl.near n.natAbs := by
  have h1 := near_inf h
  have h2 := (wd_rung h).1
  rw [keyU_num (by rw [h2]; exact Nat.le_of_lt h1), wd_eq h]
  split <;> split <;> omega
end Go.Proofs.Ytdcodlbelhbihaa.PRealsBack
