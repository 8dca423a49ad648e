/- The document's keys of reals as plain functions. -/
import Derived.Test.YtdcodlbelhbihaaBRealsKindsRealsClass
namespace Go.Proofs.Ytdcodlbelhbihaa.PRealsKinds
set_option linter.unusedVariables false
set_option linter.unusedSimpArgs false
open Go.RowKit Go.Proofs.YtdcodlbelhbihaaW.PrintWords Go.Proofs.Ytdcodlbelhbihaa.Plain

theorem refcanon_eq {n : Nat} (h : n < 18446744073709551616) (k : Nat) : transomref02_Canon.f (k + 2) (n : Int) = some (canon n : Int) := by
  unfold transomref02_Canon.f canon nan
  rw [refclass_eq h, Option.bind_some]
  by_cases c : Fl.inf < Fl.rung n
  · rw [if_pos (class_nan.2 c), if_pos c]; rfl
  · rw [if_neg (fun q => c (class_nan.1 q)), if_neg c]
theorem refkey_eq {n : Nat} (h : n < 18446744073709551616) (k : Nat) : transomref02_Key.f (k + 2) (n : Int) = some (keyU n : Int) := by
  have hc := canon_lt h
  unfold transomref02_Key.f keyU
  rw [refcanon_eq h, Option.bind_some]
  by_cases c : canon n < 9223372036854775808
  · rw [if_pos (by omega), if_pos c, or_top c]
  · rw [if_neg (by omega), if_neg c, not_u64 hc]
end Go.Proofs.Ytdcodlbelhbihaa.PRealsKinds
