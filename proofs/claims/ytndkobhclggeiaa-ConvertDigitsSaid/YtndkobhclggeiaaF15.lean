/- By a program of this session (AEV): functions of the program as plain functions, and that the machine does what they say. -/
import Derived.Test.YtndkobhclggeiaaAevW
import Derived.Test.YtndkobhclggeiaaProg
import Derived.Laws.Externs
import Derived.Lib.Bytealg
import Derived.Test.YtndkobhclggeiaaF2
import Derived.Test.YtndkobhclggeiaaF4
import Derived.Test.YtndkobhclggeiaaF5
import Derived.Test.YtndkobhclggeiaaF9
import Derived.Test.YtndkobhclggeiaaF11
namespace Go.Proofs.Ytndkobhclggeiaa.Aev
set_option linter.unusedVariables false
set_option linter.unusedSimpArgs false
set_option maxRecDepth 100000
set_option maxHeartbeats 4000000
open Go
/-! ### transomlaw07_ConvertDigits: function 4 -/
def ct_transomlaw07_ConvertDigits (g : Int → ByteArray → Option Bool) : Ct where
  nin := 0
  mv := []
  F := fun tvs blks {β} K => match tvs, blks with
    | [.v (.one (.d (.int .i64) a0)), .v (.one (.d .str a1))], [] => (g a0 a1).bind fun r => K ⟨.v (.one (.d .bool r)), []⟩
    | _, _ => none
  legit := fun tvs blks K r h => by
    split at h
    · obtain ⟨x, hx, hk⟩ := Option.bind_eq_some_iff.1 h
      refine ⟨_, ?_, hk⟩
      simp only [hx, Option.bind_some]
    · simp at h
noncomputable def env_transomlaw07_ConvertDigits (g8 : Option Bool) (g14 : ByteArray → Option (Int × Int)) (g15 : ByteArray → Option (Int × Int)) (g16 : Int → Option ByteArray) (g17 : Int → Option ByteArray)  : FEnv := { P := Go.Proofs.Try.prog, ct := fun m => if m = 8 then some (ct_transomlaw07_awake g8) else if m = 14 then some (ct_convert_Number g14) else if m = 15 then some (ct_transomref07_Number g15) else if m = 16 then some (ct_convert_Digits g16) else if m = 17 then some (ct_transomref07_Digits g17) else none, N := 68, body := Go.Proofs.Try.f4.body.getD .skip, rvs := [.tmp 4], rts := [4], nin := 0, rmv := [], segs := [] }
def transomlaw07_ConvertDigits.c {β : Type} (g8 : Option Bool) (g14 : ByteArray → Option (Int × Int)) (g15 : ByteArray → Option (Int × Int)) (g16 : Int → Option ByteArray) (g17 : Int → Option ByteArray)  (a0 : Int) (a1 : ByteArray) (ret : Bool → Option β) : Option β := (bif (decide (((ByteArray.size a1) : Int) > (2000 : Int))) then (g8.bind fun r0 => (ret (r0))) else ((g14 a1).bind fun r1 => ((g15 a1).bind fun r2 => ((g16 a0).bind fun r3 => ((g14 r3).bind fun r4 => ((g16 a0).bind fun r5 => ((g17 a0).bind fun r6 => (bif ((ByteArray.toList r5) == (ByteArray.toList r6)) then (bif (r1.1 == r2.1) then (bif (r1.2 == r2.2) then (bif (r4.1 == a0) then (bif (r4.2 == (0 : Int)) then (bif (r1.2 != (0 : Int)) then (g8.bind fun r7 => (ret (r7))) else ((g16 r1.1).bind fun r8 => (bif ((ByteArray.toList r8) == (ByteArray.toList a1)) then (g8.bind fun r9 => (ret (r9))) else (ret (false))))) else (ret (false))) else (ret (false))) else (ret (false))) else (ret (false))) else (ret (false))))))))))
theorem transomlaw07_ConvertDigits.c_bind {β : Type} (g8 : Option Bool) (g14 : ByteArray → Option (Int × Int)) (g15 : ByteArray → Option (Int × Int)) (g16 : Int → Option ByteArray) (g17 : Int → Option ByteArray)  (a0 : Int) (a1 : ByteArray) (ret : Bool → Option β) : transomlaw07_ConvertDigits.c g8 g14 g15 g16 g17  a0 a1 ret = (transomlaw07_ConvertDigits.c g8 g14 g15 g16 g17  a0 a1 some).bind ret := by
  simp only [transomlaw07_ConvertDigits.c, bif_bind, sum_bind, Option.bind_assoc, Option.bind_some, Option.bind_none, Option.bind_fun_some]
theorem transomlaw07_ConvertDigits.ev (g8 : Option Bool) (g14 : ByteArray → Option (Int × Int)) (g15 : ByteArray → Option (Int × Int)) (g16 : Int → Option ByteArray) (g17 : Int → Option ByteArray)  (a0 : Int) (a1 : ByteArray) : evAt (env_transomlaw07_ConvertDigits g8 g14 g15 g16 g17 ) [] [0, 1] [.v (.one (.d (.int .i64) a0)), .v (.one (.d .str a1))] [] some = transomlaw07_ConvertDigits.c g8 g14 g15 g16 g17  a0 a1 (fun r => some ⟨.v (.one (.d .bool r)), []⟩) := by
  kernel_rfl
def transomlaw07_ConvertDigits.f (k : Nat) (a0 : Int) (a1 : ByteArray) : Option Bool := transomlaw07_ConvertDigits.c (transomlaw07_awake.f k) (convert_Number.f k) (transomref07_Number.f k) (convert_Digits.f k) (transomref07_Digits.f k)  a0 a1 some
theorem transomlaw07_ConvertDigits.is (g8 : Option Bool) (g14 : ByteArray → Option (Int × Int)) (g15 : ByteArray → Option (Int × Int)) (g16 : Int → Option ByteArray) (g17 : Int → Option ByteArray)  : FnIs (env_transomlaw07_ConvertDigits g8 g14 g15 g16 g17 ) 4 Go.Proofs.Try.f4 := ⟨Go.Proofs.Try.func4, rfl, rfl, rfl, by decide⟩
theorem transomlaw07_ConvertDigits.envok (g8 : Option Bool) (g14 : ByteArray → Option (Int × Int)) (g15 : ByteArray → Option (Int × Int)) (g16 : Int → Option ByteArray) (g17 : Int → Option ByteArray)  (h8 : CtOK Go.Proofs.Try.prog 8 (ct_transomlaw07_awake g8)) (h14 : CtOK Go.Proofs.Try.prog 14 (ct_convert_Number g14)) (h15 : CtOK Go.Proofs.Try.prog 15 (ct_transomref07_Number g15)) (h16 : CtOK Go.Proofs.Try.prog 16 (ct_convert_Digits g16)) (h17 : CtOK Go.Proofs.Try.prog 17 (ct_transomref07_Digits g17)) : EnvOK (env_transomlaw07_ConvertDigits g8 g14 g15 g16 g17 ).toEnv := by
  intro f c h
  simp only [env_transomlaw07_ConvertDigits] at h
  split at h
  · rename_i e; subst e; cases h; exact h8
  split at h
  · rename_i e; subst e; cases h; exact h14
  split at h
  · rename_i e; subst e; cases h; exact h15
  split at h
  · rename_i e; subst e; cases h; exact h16
  split at h
  · rename_i e; subst e; cases h; exact h17
  simp at h
theorem transomlaw07_ConvertDigits.ok (k : Nat) : CtOK Go.Proofs.Try.prog 4 (ct_transomlaw07_ConvertDigits (transomlaw07_ConvertDigits.f k)) := by
  refine ct_of_ev (E := env_transomlaw07_ConvertDigits (transomlaw07_awake.f k) (convert_Number.f k) (transomref07_Number.f k) (convert_Digits.f k) (transomref07_Digits.f k) ) (transomlaw07_ConvertDigits.is _ _ _ _ _ ) (transomlaw07_ConvertDigits.envok _ _ _ _ _  (transomlaw07_awake.ok k) (convert_Number.ok k) (transomref07_Number.ok k) (convert_Digits.ok k) (transomref07_Digits.ok k)) (fun s hs => by simp [env_transomlaw07_ConvertDigits] at hs) rfl ?_
  intro tvs blks res h
  simp only [ct_transomlaw07_ConvertDigits] at h
  split at h
  · refine (transomlaw07_ConvertDigits.ev (transomlaw07_awake.f k) (convert_Number.f k) (transomref07_Number.f k) (convert_Digits.f k) (transomref07_Digits.f k)  _ _ ).trans ?_
    rw [transomlaw07_ConvertDigits.c_bind]
    exact h
  · simp at h
end Go.Proofs.Ytndkobhclggeiaa.Aev
