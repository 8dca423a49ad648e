/- By a program of this session (AEV): functions of the program as plain functions, and that the machine does what they say. -/
import Derived.Test.YtndkobhclggeiaaAevW
import Derived.Test.YtndkobhclggeiaaProg
import Derived.Laws.Externs
import Derived.Lib.Bytealg
import Derived.Test.YtndkobhclggeiaaF0
import Derived.Test.YtndkobhclggeiaaF5
import Derived.Test.YtndkobhclggeiaaF6
import Derived.Test.YtndkobhclggeiaaF13
namespace Go.Proofs.Ytndkobhclggeiaa.Aev
set_option linter.unusedVariables false
set_option linter.unusedSimpArgs false
set_option maxRecDepth 100000
set_option maxHeartbeats 4000000
open Go
/-! ### transomlaw07_ConvertTos: function 3 -/
def ct_transomlaw07_ConvertTos (g : Int → Int → Int → ByteArray → Int → Option Bool) : Ct where
  nin := 0
  mv := []
  F := fun tvs blks {β} K => match tvs, blks with
    | [.v (.agg [(.d (.int .i64) a0), (.d (.int .i64) a1), (.d (.int .u64) a2), (.d .str a3)]), .v (.one (.d (.int .i64) a4))], [] => (g a0 a1 a2 a3 a4).bind fun r => K ⟨.v (.one (.d .bool r)), []⟩
    | _, _ => none
  legit := fun tvs blks K r h => by
    split at h
    · obtain ⟨x, hx, hk⟩ := Option.bind_eq_some_iff.1 h
      refine ⟨_, ?_, hk⟩
      simp only [hx, Option.bind_some]
    · simp at h
noncomputable def env_transomlaw07_ConvertTos (g7 : Int → Int → Int → ByteArray → Option Int) (g8 : Option Bool) (g9 : Int → Int → Int → ByteArray → Int → Option (Int × Int × Int × ByteArray × Int)) (g10 : Int → Int → Int → ByteArray → Int → Option (Int × Int × Int × ByteArray × Int)) (g11 : Int → Int → Int → ByteArray → Int → Int → Int → ByteArray → Option Bool) (g12 : Int → Int → Option Bool) (g13 : Int → Int → Option Bool)  : FEnv := { P := Go.Proofs.Try.prog, ct := fun m => if m = 7 then some (ct_transomlaw04_Few g7) else if m = 8 then some (ct_transomlaw07_awake g8) else if m = 9 then some (ct_convert_To g9) else if m = 10 then some (ct_transomref07_To g10) else if m = 11 then some (ct_transomref04_Same g11) else if m = 12 then some (ct_convert_Can g12) else if m = 13 then some (ct_transomref07_Can g13) else none, N := 47, body := Go.Proofs.Try.f3.body.getD .skip, rvs := [.tmp 4], rts := [4], nin := 0, rmv := [], segs := [] }
def transomlaw07_ConvertTos.c {β : Type} (g7 : Int → Int → Int → ByteArray → Option Int) (g8 : Option Bool) (g9 : Int → Int → Int → ByteArray → Int → Option (Int × Int × Int × ByteArray × Int)) (g10 : Int → Int → Int → ByteArray → Int → Option (Int × Int × Int × ByteArray × Int)) (g11 : Int → Int → Int → ByteArray → Int → Int → Int → ByteArray → Option Bool) (g12 : Int → Int → Option Bool) (g13 : Int → Int → Option Bool)  (a0 : Int) (a1 : Int) (a2 : Int) (a3 : ByteArray) (a4 : Int) (ret : Bool → Option β) : Option β := ((g7 a0 a1 a2 a3).bind fun r0 => (bif (r0 == (0 : Int)) then (g8.bind fun r1 => (ret (r1))) else ((g9 a0 a1 a2 a3 a4).bind fun r2 => ((g10 a0 a1 a2 a3 a4).bind fun r3 => ((g11 r2.1 r2.2.1 r2.2.2.1 r2.2.2.2.1 r3.1 r3.2.1 r3.2.2.1 r3.2.2.2.1).bind fun r4 => (bif r4 then (bif (r2.2.2.2.2 == r3.2.2.2.2) then ((g12 a0 a4).bind fun r5 => ((g13 a0 a4).bind fun r6 => (bif (r5 == r6) then (g8.bind fun r7 => (ret (r7))) else (ret (false))))) else (ret (false))) else (ret (false))))))))
theorem transomlaw07_ConvertTos.c_bind {β : Type} (g7 : Int → Int → Int → ByteArray → Option Int) (g8 : Option Bool) (g9 : Int → Int → Int → ByteArray → Int → Option (Int × Int × Int × ByteArray × Int)) (g10 : Int → Int → Int → ByteArray → Int → Option (Int × Int × Int × ByteArray × Int)) (g11 : Int → Int → Int → ByteArray → Int → Int → Int → ByteArray → Option Bool) (g12 : Int → Int → Option Bool) (g13 : Int → Int → Option Bool)  (a0 : Int) (a1 : Int) (a2 : Int) (a3 : ByteArray) (a4 : Int) (ret : Bool → Option β) : transomlaw07_ConvertTos.c g7 g8 g9 g10 g11 g12 g13  a0 a1 a2 a3 a4 ret = (transomlaw07_ConvertTos.c g7 g8 g9 g10 g11 g12 g13  a0 a1 a2 a3 a4 some).bind ret := by
  simp only [transomlaw07_ConvertTos.c, bif_bind, sum_bind, Option.bind_assoc, Option.bind_some, Option.bind_none, Option.bind_fun_some]
theorem transomlaw07_ConvertTos.ev (g7 : Int → Int → Int → ByteArray → Option Int) (g8 : Option Bool) (g9 : Int → Int → Int → ByteArray → Int → Option (Int × Int × Int × ByteArray × Int)) (g10 : Int → Int → Int → ByteArray → Int → Option (Int × Int × Int × ByteArray × Int)) (g11 : Int → Int → Int → ByteArray → Int → Int → Int → ByteArray → Option Bool) (g12 : Int → Int → Option Bool) (g13 : Int → Int → Option Bool)  (a0 : Int) (a1 : Int) (a2 : Int) (a3 : ByteArray) (a4 : Int) : evAt (env_transomlaw07_ConvertTos g7 g8 g9 g10 g11 g12 g13 ) [] [0, 1] [.v (.agg [(.d (.int .i64) a0), (.d (.int .i64) a1), (.d (.int .u64) a2), (.d .str a3)]), .v (.one (.d (.int .i64) a4))] [] some = transomlaw07_ConvertTos.c g7 g8 g9 g10 g11 g12 g13  a0 a1 a2 a3 a4 (fun r => some ⟨.v (.one (.d .bool r)), []⟩) := by
  kernel_rfl
def transomlaw07_ConvertTos.f (k : Nat) (a0 : Int) (a1 : Int) (a2 : Int) (a3 : ByteArray) (a4 : Int) : Option Bool := transomlaw07_ConvertTos.c (transomlaw04_Few.f k) (transomlaw07_awake.f k) (convert_To.f k) (transomref07_To.f k) (transomref04_Same.f k) (convert_Can.f k) (transomref07_Can.f k)  a0 a1 a2 a3 a4 some
theorem transomlaw07_ConvertTos.is (g7 : Int → Int → Int → ByteArray → Option Int) (g8 : Option Bool) (g9 : Int → Int → Int → ByteArray → Int → Option (Int × Int × Int × ByteArray × Int)) (g10 : Int → Int → Int → ByteArray → Int → Option (Int × Int × Int × ByteArray × Int)) (g11 : Int → Int → Int → ByteArray → Int → Int → Int → ByteArray → Option Bool) (g12 : Int → Int → Option Bool) (g13 : Int → Int → Option Bool)  : FnIs (env_transomlaw07_ConvertTos g7 g8 g9 g10 g11 g12 g13 ) 3 Go.Proofs.Try.f3 := ⟨Go.Proofs.Try.func3, rfl, rfl, rfl, by decide⟩
theorem transomlaw07_ConvertTos.envok (g7 : Int → Int → Int → ByteArray → Option Int) (g8 : Option Bool) (g9 : Int → Int → Int → ByteArray → Int → Option (Int × Int × Int × ByteArray × Int)) (g10 : Int → Int → Int → ByteArray → Int → Option (Int × Int × Int × ByteArray × Int)) (g11 : Int → Int → Int → ByteArray → Int → Int → Int → ByteArray → Option Bool) (g12 : Int → Int → Option Bool) (g13 : Int → Int → Option Bool)  (h7 : CtOK Go.Proofs.Try.prog 7 (ct_transomlaw04_Few g7)) (h8 : CtOK Go.Proofs.Try.prog 8 (ct_transomlaw07_awake g8)) (h9 : CtOK Go.Proofs.Try.prog 9 (ct_convert_To g9)) (h10 : CtOK Go.Proofs.Try.prog 10 (ct_transomref07_To g10)) (h11 : CtOK Go.Proofs.Try.prog 11 (ct_transomref04_Same g11)) (h12 : CtOK Go.Proofs.Try.prog 12 (ct_convert_Can g12)) (h13 : CtOK Go.Proofs.Try.prog 13 (ct_transomref07_Can g13)) : EnvOK (env_transomlaw07_ConvertTos g7 g8 g9 g10 g11 g12 g13 ).toEnv := by
  intro f c h
  simp only [env_transomlaw07_ConvertTos] at h
  split at h
  · rename_i e; subst e; cases h; exact h7
  split at h
  · rename_i e; subst e; cases h; exact h8
  split at h
  · rename_i e; subst e; cases h; exact h9
  split at h
  · rename_i e; subst e; cases h; exact h10
  split at h
  · rename_i e; subst e; cases h; exact h11
  split at h
  · rename_i e; subst e; cases h; exact h12
  split at h
  · rename_i e; subst e; cases h; exact h13
  simp at h
theorem transomlaw07_ConvertTos.ok (k : Nat) : CtOK Go.Proofs.Try.prog 3 (ct_transomlaw07_ConvertTos (transomlaw07_ConvertTos.f k)) := by
  refine ct_of_ev (E := env_transomlaw07_ConvertTos (transomlaw04_Few.f k) (transomlaw07_awake.f k) (convert_To.f k) (transomref07_To.f k) (transomref04_Same.f k) (convert_Can.f k) (transomref07_Can.f k) ) (transomlaw07_ConvertTos.is _ _ _ _ _ _ _ ) (transomlaw07_ConvertTos.envok _ _ _ _ _ _ _  (transomlaw04_Few.ok k) (transomlaw07_awake.ok k) (convert_To.ok k) (transomref07_To.ok k) (transomref04_Same.ok k) (convert_Can.ok k) (transomref07_Can.ok k)) (fun s hs => by simp [env_transomlaw07_ConvertTos] at hs) rfl ?_
  intro tvs blks res h
  simp only [ct_transomlaw07_ConvertTos] at h
  split at h
  · refine (transomlaw07_ConvertTos.ev (transomlaw04_Few.f k) (transomlaw07_awake.f k) (convert_To.f k) (transomref07_To.f k) (transomref04_Same.f k) (convert_Can.f k) (transomref07_Can.f k)  _ _ _ _ _ ).trans ?_
    rw [transomlaw07_ConvertTos.c_bind]
    exact h
  · simp at h
end Go.Proofs.Ytndkobhclggeiaa.Aev
