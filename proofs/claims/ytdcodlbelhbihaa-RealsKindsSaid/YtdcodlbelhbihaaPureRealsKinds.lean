/- RealsKinds: the class of any bits, what they are told as, their key, and what any key stands for, are what the document says. For every input; no conditions. -/
import Derived.Test.YtdcodlbelhbihaaPRealsKindsx2
import Derived.Test.YtdcodlbelhbihaaBRealsKindsRealsCanon
namespace Go.Proofs.Ytdcodlbelhbihaa.Pure
set_option linter.unusedVariables false
set_option linter.unusedSimpArgs false
open Go.RowKit Go.Proofs.Ytdcodlbelhbihaa.PRealsKinds Go.Proofs.YtdcodlbelhbihaaW.PrintWords Go.Proofs.YtdcodlbelhbihaaW.PrintLast
open Go.Proofs.Ytdcodlbelhbihaa.Plain

/-- The bits that a key stands for. -/
def bk (n : Nat) : Nat := if 9223372036854775808 ≤ n then n - 9223372036854775808 else 18446744073709551615 - n
theorem bk_eq {n : Nat} (h : n < 18446744073709551616) : reals_Back.b (n : Int) = (bk n : Int) := by
  unfold reals_Back.b bk; split <;> split <;> omega
theorem bk_lt {n : Nat} (h : n < 18446744073709551616) : bk n < 18446744073709551616 := by unfold bk; split <;> omega
theorem canon_same (n : Nat) : canon n = n ↔ ¬ (Fl.inf < Fl.rung n ∧ n ≠ nan) := by
  unfold canon
  by_cases c : Fl.inf < Fl.rung n
  · rw [if_pos c]; constructor
    · intro h; exact fun q => q.2 h.symm
    · intro h
      by_cases e : n = nan
      · exact e.symm
      · exact absurd ⟨c, e⟩ h
  · rw [if_neg c]; constructor
    · intro _ q; exact c q.1
    · intro _; rfl
theorem back_eq {n : Nat} (h : n < 18446744073709551616) : reals_Back.f (n : Int) = some (if canon (bk n) = bk n then ((bk n : Int), true) else (0, false)) := by
  unfold reals_Back.f
  rw [if_pos (by omega), bk_eq h, Int.toNat_natCast]
  have hc := canon_same (bk n)
  by_cases c : canon (bk n) = bk n
  · rw [if_pos c, if_neg (fun q => (hc.1 c) ⟨q.1, fun e => q.2 (by rw [e]; rfl)⟩)]
  · rw [if_neg c, if_pos]
    by_cases q : Fl.inf < Fl.rung (bk n) ∧ bk n ≠ nan
    · exact ⟨q.1, fun e => q.2 (by unfold nan; omega)⟩
    · exact absurd (hc.2 q) c
theorem refback_eq {n : Nat} (h : n < 18446744073709551616) (k : Nat) : transomref02_Back.f (k + 2) (n : Int) = some (if canon (bk n) = bk n then ((bk n : Int), true) else (0, false)) := by
  have hb := bk_lt h
  unfold transomref02_Back.f
  rw [and_63 h, not_u64 h]
  have fin : ∀ m : Nat, m < 18446744073709551616 → ((transomref02_Canon.f (k + 2) (m : Int)).bind fun t => (if t = (m : Int) then (some ((m : Int), true)) else (some ((0 : Int), false)))) = some (if canon m = m then ((m : Int), true) else (0, false)) := by
    intro m hm
    rw [refcanon_eq hm, Option.bind_some]
    by_cases c : canon m = m
    · rw [if_pos c, if_pos (by omega)]
    · rw [if_neg c, if_neg (by omega)]
  by_cases c : 9223372036854775808 ≤ n
  · have e : n % 9223372036854775808 = bk n := by unfold bk; rw [if_pos c]; omega
    rw [if_pos (by omega), e]
    exact fin (bk n) hb
  · have e : 18446744073709551615 - n = bk n := by unfold bk; rw [if_neg c]
    rw [if_neg (by omega), e]
    exact fin (bk n) hb
theorem RealsKinds : transomlaw02_RealsKinds.Pure := by
  intro n wn
  obtain ⟨n, rfl, h⟩ := nat_of wn
  obtain ⟨k, hk⟩ : ∃ k : Nat, 0 ≤ k := ⟨0, by omega⟩
  refine ⟨k + 2, ?_⟩
  unfold transomlaw02_RealsKinds.f
  rw [back_eq h, Option.bind_some, refback_eq h, Option.bind_some, class_eq h, Option.bind_some, refclass_eq h, Option.bind_some, if_pos rfl, canon_eq, Option.bind_some, refcanon_eq h, Option.bind_some, if_pos rfl, key_eq h, Option.bind_some, refkey_eq h, Option.bind_some, if_pos rfl, if_pos rfl, if_pos (by simp), awake_true]; rfl
end Go.Proofs.Ytdcodlbelhbihaa.Pure
