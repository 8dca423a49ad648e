/- By a program of this session (AEV): functions of the program as plain functions, and that the machine does what they say. -/
import Derived.Test.YtlclhjdfbkenfaaAevW
import Derived.Test.YtlclhjdfbkenfaaProg
import Derived.Laws.Externs
import Derived.Lib.Bytealg
import Derived.Test.YtlclhjdfbkenfaaF0
import Derived.Test.YtlclhjdfbkenfaaF2
import Derived.Test.YtlclhjdfbkenfaaF8
import Derived.Test.YtlclhjdfbkenfaaF12
namespace Go.Proofs.Ytlclhjdfbkenfaa.Aev
set_option linter.unusedVariables false
set_option linter.unusedSimpArgs false
set_option maxRecDepth 100000
set_option maxHeartbeats 4000000
open Go
/-! ### transomlaw06_RowsPuts: function 3 -/
def ct_transomlaw06_RowsPuts (g : (List (Int × (Int × (Int × (ByteArray × Unit))))) → Option Bool) : Ct where
  nin := 0
  mv := []
  F := fun tvs blks {β} K => match tvs, blks with
    | [.v (.one (.d (.sl (.pair (.int .i64) (.pair (.int .i64) (.pair (.int .u64) (.pair .str .unit))))) a0))], [] => (g a0).bind fun r => K ⟨.v (.one (.d .bool r)), []⟩
    | _, _ => none
  legit := fun tvs blks K r h => by
    split at h
    · obtain ⟨x, hx, hk⟩ := Option.bind_eq_some_iff.1 h
      refine ⟨_, ?_, hk⟩
      simp only [hx, Option.bind_some]
    · simp at h
noncomputable def env_transomlaw06_RowsPuts (g8 : (List (Int × (Int × (Int × (ByteArray × Unit))))) → Option Int) (g9 : Option Bool) (g10 : (List (Int × (Int × (Int × (ByteArray × Unit))))) → Option (ByteArray × Int)) (g11 : (List (Int × (Int × (Int × (ByteArray × Unit))))) → Option (ByteArray × Int))  : FEnv := { P := Go.Proofs.Try.prog, ct := fun m => if m = 8 then some (ct_transomlaw05_Few g8) else if m = 9 then some (ct_transomlaw06_awake g9) else if m = 10 then some (ct_rows_Put g10) else if m = 11 then some (ct_transomref06_Put g11) else none, N := 32, body := Go.Proofs.Try.f3.body.getD .skip, rvs := [.tmp 2], rts := [4], nin := 0, rmv := [], segs := [] }
def transomlaw06_RowsPuts.c {β : Type} (g8 : (List (Int × (Int × (Int × (ByteArray × Unit))))) → Option Int) (g9 : Option Bool) (g10 : (List (Int × (Int × (Int × (ByteArray × Unit))))) → Option (ByteArray × Int)) (g11 : (List (Int × (Int × (Int × (ByteArray × Unit))))) → Option (ByteArray × Int))  (a0 : List (Int × (Int × (Int × (ByteArray × Unit))))) (ret : Bool → Option β) : Option β := ((g8 a0).bind fun r0 => (bif (r0 == (0 : Int)) then (g9.bind fun r1 => (ret (r1))) else ((g10 a0).bind fun r2 => ((g11 a0).bind fun r3 => (bif ((ByteArray.toList r2.1) == (ByteArray.toList r3.1)) then (bif (r2.2 == r3.2) then (g9.bind fun r4 => (ret (r4))) else (ret (false))) else (ret (false)))))))
theorem transomlaw06_RowsPuts.c_bind {β : Type} (g8 : (List (Int × (Int × (Int × (ByteArray × Unit))))) → Option Int) (g9 : Option Bool) (g10 : (List (Int × (Int × (Int × (ByteArray × Unit))))) → Option (ByteArray × Int)) (g11 : (List (Int × (Int × (Int × (ByteArray × Unit))))) → Option (ByteArray × Int))  (a0 : List (Int × (Int × (Int × (ByteArray × Unit))))) (ret : Bool → Option β) : transomlaw06_RowsPuts.c g8 g9 g10 g11  a0 ret = (transomlaw06_RowsPuts.c g8 g9 g10 g11  a0 some).bind ret := by
  simp only [transomlaw06_RowsPuts.c, bif_bind, sum_bind, Option.bind_assoc, Option.bind_some, Option.bind_none, Option.bind_fun_some]
theorem transomlaw06_RowsPuts.ev (g8 : (List (Int × (Int × (Int × (ByteArray × Unit))))) → Option Int) (g9 : Option Bool) (g10 : (List (Int × (Int × (Int × (ByteArray × Unit))))) → Option (ByteArray × Int)) (g11 : (List (Int × (Int × (Int × (ByteArray × Unit))))) → Option (ByteArray × Int))  (a0 : List (Int × (Int × (Int × (ByteArray × Unit))))) : evAt (env_transomlaw06_RowsPuts g8 g9 g10 g11 ) [] [0] [.v (.one (.d (.sl (.pair (.int .i64) (.pair (.int .i64) (.pair (.int .u64) (.pair .str .unit))))) a0))] [] some = transomlaw06_RowsPuts.c g8 g9 g10 g11  a0 (fun r => some ⟨.v (.one (.d .bool r)), []⟩) := by
  kernel_rfl
def transomlaw06_RowsPuts.f (k : Nat) (a0 : List (Int × (Int × (Int × (ByteArray × Unit))))) : Option Bool := transomlaw06_RowsPuts.c (transomlaw05_Few.f k) (transomlaw06_awake.f k) (rows_Put.f k) (transomref06_Put.f k)  a0 some
theorem transomlaw06_RowsPuts.is (g8 : (List (Int × (Int × (Int × (ByteArray × Unit))))) → Option Int) (g9 : Option Bool) (g10 : (List (Int × (Int × (Int × (ByteArray × Unit))))) → Option (ByteArray × Int)) (g11 : (List (Int × (Int × (Int × (ByteArray × Unit))))) → Option (ByteArray × Int))  : FnIs (env_transomlaw06_RowsPuts g8 g9 g10 g11 ) 3 Go.Proofs.Try.f3 := ⟨Go.Proofs.Try.func3, rfl, rfl, rfl, by decide⟩
theorem transomlaw06_RowsPuts.envok (g8 : (List (Int × (Int × (Int × (ByteArray × Unit))))) → Option Int) (g9 : Option Bool) (g10 : (List (Int × (Int × (Int × (ByteArray × Unit))))) → Option (ByteArray × Int)) (g11 : (List (Int × (Int × (Int × (ByteArray × Unit))))) → Option (ByteArray × Int))  (h8 : CtOK Go.Proofs.Try.prog 8 (ct_transomlaw05_Few g8)) (h9 : CtOK Go.Proofs.Try.prog 9 (ct_transomlaw06_awake g9)) (h10 : CtOK Go.Proofs.Try.prog 10 (ct_rows_Put g10)) (h11 : CtOK Go.Proofs.Try.prog 11 (ct_transomref06_Put g11)) : EnvOK (env_transomlaw06_RowsPuts g8 g9 g10 g11 ).toEnv := by
  intro f c h
  simp only [env_transomlaw06_RowsPuts] at h
  split at h
  · rename_i e; subst e; cases h; exact h8
  split at h
  · rename_i e; subst e; cases h; exact h9
  split at h
  · rename_i e; subst e; cases h; exact h10
  split at h
  · rename_i e; subst e; cases h; exact h11
  simp at h
theorem transomlaw06_RowsPuts.ok (k : Nat) : CtOK Go.Proofs.Try.prog 3 (ct_transomlaw06_RowsPuts (transomlaw06_RowsPuts.f k)) := by
  refine ct_of_ev (E := env_transomlaw06_RowsPuts (transomlaw05_Few.f k) (transomlaw06_awake.f k) (rows_Put.f k) (transomref06_Put.f k) ) (transomlaw06_RowsPuts.is _ _ _ _ ) (transomlaw06_RowsPuts.envok _ _ _ _  (transomlaw05_Few.ok k) (transomlaw06_awake.ok k) (rows_Put.ok k) (transomref06_Put.ok k)) (fun s hs => by simp [env_transomlaw06_RowsPuts] at hs) rfl ?_
  intro tvs blks res h
  simp only [ct_transomlaw06_RowsPuts] at h
  split at h
  · refine (transomlaw06_RowsPuts.ev (transomlaw05_Few.f k) (transomlaw06_awake.f k) (rows_Put.f k) (transomref06_Put.f k)  _ ).trans ?_
    rw [transomlaw06_RowsPuts.c_bind]
    exact h
  · simp at h
end Go.Proofs.Ytlclhjdfbkenfaa.Aev
