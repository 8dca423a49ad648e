/- By a program of this session (AEV): functions of the program as plain functions, and that the machine does what they say. -/
import Derived.Test.YtpcojbnoadnknaaAevW
import Derived.Test.YtpcojbnoadnknaaProg
import Derived.Laws.Externs
import Derived.Lib.Bytealg
namespace Go.Proofs.Ytpcojbnoadnknaa.Aev
set_option linter.unusedVariables false
set_option linter.unusedSimpArgs false
set_option maxRecDepth 100000
set_option maxHeartbeats 4000000
open Go
/-! ### transomlaw04_Few: function 17 -/
def ct_transomlaw04_Few (g : Int → Int → Int → ByteArray → Option Int) : Ct where
  nin := 0
  mv := []
  F := fun tvs blks {β} K => match tvs, blks with
    | [.v (.agg [(.d (.int .i64) a0), (.d (.int .i64) a1), (.d (.int .u64) a2), (.d .str a3)])], [] => (g a0 a1 a2 a3).bind fun r => K ⟨.v (.one (.d (.int .i64) r)), []⟩
    | _, _ => none
  legit := fun tvs blks K r h => by
    split at h
    · obtain ⟨x, hx, hk⟩ := Option.bind_eq_some_iff.1 h
      refine ⟨_, ?_, hk⟩
      simp only [hx, Option.bind_some]
    · simp at h
noncomputable def env_transomlaw04_Few   : FEnv := { P := Go.Proofs.Try.prog, ct := fun m => none, N := 7, body := Go.Proofs.Try.f17.body.getD .skip, rvs := [.tmp 2], rts := [3], nin := 0, rmv := [], segs := [] }
def transomlaw04_Few.c {β : Type}   (a0 : Int) (a1 : Int) (a2 : Int) (a3 : ByteArray) (ret : Int → Option β) : Option β := (bif (decide (((ByteArray.size a3) : Int) > (2000 : Int))) then (ret ((0 : Int))) else (ret ((1 : Int))))
theorem transomlaw04_Few.c_bind {β : Type}   (a0 : Int) (a1 : Int) (a2 : Int) (a3 : ByteArray) (ret : Int → Option β) : transomlaw04_Few.c   a0 a1 a2 a3 ret = (transomlaw04_Few.c   a0 a1 a2 a3 some).bind ret := by
  simp only [transomlaw04_Few.c, bif_bind, sum_bind, Option.bind_assoc, Option.bind_some, Option.bind_none, Option.bind_fun_some]
theorem transomlaw04_Few.ev   (a0 : Int) (a1 : Int) (a2 : Int) (a3 : ByteArray) : evAt (env_transomlaw04_Few  ) [] [0] [.v (.agg [(.d (.int .i64) a0), (.d (.int .i64) a1), (.d (.int .u64) a2), (.d .str a3)])] [] some = transomlaw04_Few.c   a0 a1 a2 a3 (fun r => some ⟨.v (.one (.d (.int .i64) r)), []⟩) := by
  kernel_rfl
def transomlaw04_Few.f (k : Nat) (a0 : Int) (a1 : Int) (a2 : Int) (a3 : ByteArray) : Option Int := transomlaw04_Few.c   a0 a1 a2 a3 some
theorem transomlaw04_Few.is   : FnIs (env_transomlaw04_Few  ) 17 Go.Proofs.Try.f17 := ⟨Go.Proofs.Try.func17, rfl, rfl, rfl, by decide⟩
theorem transomlaw04_Few.envok    : EnvOK (env_transomlaw04_Few  ).toEnv := by
  intro f c h
  simp only [env_transomlaw04_Few] at h
  simp at h
theorem transomlaw04_Few.ok (k : Nat) : CtOK Go.Proofs.Try.prog 17 (ct_transomlaw04_Few (transomlaw04_Few.f k)) := by
  refine ct_of_ev (E := env_transomlaw04_Few  ) (transomlaw04_Few.is ) (transomlaw04_Few.envok  ) (fun s hs => by simp [env_transomlaw04_Few] at hs) rfl ?_
  intro tvs blks res h
  simp only [ct_transomlaw04_Few] at h
  split at h
  · refine (transomlaw04_Few.ev   _ _ _ _ ).trans ?_
    rw [transomlaw04_Few.c_bind]
    exact h
  · simp at h
end Go.Proofs.Ytpcojbnoadnknaa.Aev
