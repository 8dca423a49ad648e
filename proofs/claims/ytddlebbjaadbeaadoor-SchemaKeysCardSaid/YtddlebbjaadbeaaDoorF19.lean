/- By a program of this session (AEV): functions of the program as plain functions, and that the machine does what they say. -/
import Derived.Test.YtddlebbjaadbeaaDoorTys
import Derived.Test.YtddlebbjaadbeaaDoorProg
import Derived.Laws.Externs
import Derived.Lib.Bytealg
import Derived.Test.YtddlebbjaadbeaaDoorF0
namespace Go.Proofs.YtddlebbjaadbeaaDoor.Aev
set_option linter.unusedVariables false
set_option linter.unusedSimpArgs false
set_option maxRecDepth 100000
set_option maxHeartbeats 4000000
open Go
/-! ### transomlaw05_Few: function 18 -/
abbrev G_transomlaw05_Few : Type := (List D_api_Value) → Option Int
def ct_transomlaw05_Few (g : G_transomlaw05_Few) : Ct where
  nin := 0
  mv := []
  F := fun tvs blks {β} K => match tvs, blks with
    | [.v (.one (.d (.sl (.pair (.int .i64) (.pair (.int .i64) (.pair (.int .u64) (.pair .str .unit))))) a0))], [] => (g a0).bind fun r => K ⟨.v (.one (.d (.int .i64) r)), []⟩
    | _, _ => none
  legit := fun tvs blks K r h => by
    split at h
    · obtain ⟨x, hx, hk⟩ := Option.bind_eq_some_iff.1 h
      refine ⟨_, ?_, hk⟩
      simp only [hx, Option.bind_some]
    · simp at h
abbrev S_transomlaw05_Few_0 : Type := (List D_api_Value) → Int → Option Int
def seg_transomlaw05_Few_0 (g : S_transomlaw05_Few_0) : Seg where
  path := [4, 1, 0, 1, 1]
  prep := []
  keep := [0, 3]
  F := fun tvs blks {β} K => match tvs, blks with
    | [.v (.one (.d (.sl (.pair (.int .i64) (.pair (.int .i64) (.pair (.int .u64) (.pair .str .unit))))) x0)), .v (.one (.d (.int .i64) x1))], [] => (g x0 x1).bind fun r => K ⟨.v (.one (.d (.int .i64) r)), []⟩
    | _, _ => none
  legit := fun tvs blks K r h => by
    split at h
    · obtain ⟨x, hx, hk⟩ := Option.bind_eq_some_iff.1 h
      refine ⟨_, ?_, hk⟩
      simp only [hx, Option.bind_some]
    · simp at h
noncomputable def env_transomlaw05_Few (g22 : G_transomlaw04_Few) (s0 : S_transomlaw05_Few_0) : FEnv := { P := Go.Proofs.Tryd.prog, ct := fun m => if m = 22 then some (ct_transomlaw04_Few g22) else none, N := 19, body := Go.Proofs.Tryd.f18.body.getD .skip, rvs := [.tmp 2], rts := [3], nin := 0, rmv := [], segs := [seg_transomlaw05_Few_0 s0] }
def transomlaw05_Few.c {β : Type} (g22 : G_transomlaw04_Few) (s0 : S_transomlaw05_Few_0) (a0 : List D_api_Value) (ret : Int → Option β) : Option β := (bif (decide (((List.length a0) : Int) > (30 : Int))) then (ret ((0 : Int))) else ((s0 a0 (0 : Int)).bind ret))
def transomlaw05_Few.s0c {β : Type} (g22 : G_transomlaw04_Few) (s0 : S_transomlaw05_Few_0) (x0 : List D_api_Value) (x1 : Int) (ret : Int → Option β) : Option β := (bif (decide (x1 < ((List.length x0) : Int))) then (bif ((decide ((0 : Int) ≤ x1)) && (decide (x1 < ((List.length x0) : Int)))) then ((g22 (elem T_api_Value x0 x1).1 (elem T_api_Value x0 x1).2.1 (elem T_api_Value x0 x1).2.2.1 (elem T_api_Value x0 x1).2.2.2.1).bind fun r0 => (bif (r0 == (0 : Int)) then (ret ((0 : Int))) else ((s0 x0 (IntKind.wrap IntKind.i64 (x1 + (1 : Int)))).bind ret))) else none) else (ret ((1 : Int))))
theorem transomlaw05_Few.c_bind {β : Type} {g22 : G_transomlaw04_Few} {s0 : S_transomlaw05_Few_0} {a0 : List D_api_Value} {ret : Int → Option β} : transomlaw05_Few.c g22 s0 a0 ret = (transomlaw05_Few.c g22 s0 a0 some).bind ret := by
  simp only [transomlaw05_Few.c, bif_bind, sum_bind, Option.bind_assoc, Option.bind_some, Option.bind_none, Option.bind_fun_some]
theorem transomlaw05_Few.s0c_bind {β : Type} {g22 : G_transomlaw04_Few} {s0 : S_transomlaw05_Few_0} {x0 : List D_api_Value} {x1 : Int} {ret : Int → Option β} : transomlaw05_Few.s0c g22 s0 x0 x1 ret = (transomlaw05_Few.s0c g22 s0 x0 x1 some).bind ret := by
  simp only [transomlaw05_Few.s0c, bif_bind, sum_bind, Option.bind_assoc, Option.bind_some, Option.bind_none, Option.bind_fun_some]
theorem transomlaw05_Few.ev {g22 : G_transomlaw04_Few} {s0 : S_transomlaw05_Few_0} {a0 : List D_api_Value} : evAt (env_transomlaw05_Few g22 s0) [] [0] [.v (.one (.d (.sl T_api_Value) a0))] [] some = transomlaw05_Few.c g22 s0 a0 (fun r => some ⟨.v (.one (.d (.int .i64) r)), []⟩) := by
  kernel_rfl
theorem transomlaw05_Few.s0_ev {g22 : G_transomlaw04_Few} {s0 : S_transomlaw05_Few_0} {x0 : List D_api_Value} {x1 : Int} : evAt (env_transomlaw05_Few g22 s0) [4, 1, 0, 1, 1] [0, 3] [.v (.one (.d (.sl T_api_Value) x0)), .v (.one (.d (.int .i64) x1))] [] some = transomlaw05_Few.s0c g22 s0 x0 x1 (fun r => some ⟨.v (.one (.d (.int .i64) r)), []⟩) := by
  kernel_rfl
def transomlaw05_Few.s0 : Nat → (List D_api_Value) → Int → Option Int
  | 0, _, _ => none
  | k + 1, x0, x1 => transomlaw05_Few.s0c (transomlaw04_Few.f k) (transomlaw05_Few.s0 k) x0 x1 some
def transomlaw05_Few.f (k : Nat) (a0 : List D_api_Value) : Option Int := transomlaw05_Few.c (transomlaw04_Few.f k) (transomlaw05_Few.s0 k) a0 some
theorem transomlaw05_Few.is {g22 : G_transomlaw04_Few} {s0 : S_transomlaw05_Few_0} : FnIs (env_transomlaw05_Few g22 s0) 18 Go.Proofs.Tryd.f18 := ⟨Go.Proofs.Tryd.func18, rfl, rfl, rfl, by decide⟩
theorem transomlaw05_Few.envok {g22 : G_transomlaw04_Few} {s0 : S_transomlaw05_Few_0} (h22 : CtOK Go.Proofs.Tryd.prog 22 (ct_transomlaw04_Few g22)) : EnvOK (env_transomlaw05_Few g22 s0).toEnv := by
  intro f c h
  simp only [env_transomlaw05_Few] at h
  split at h
  · rename_i e; subst e; cases h; exact h22
  simp at h
noncomputable abbrev transomlaw05_Few.E (k : Nat) : FEnv := env_transomlaw05_Few (transomlaw04_Few.f k) (transomlaw05_Few.s0 k)
theorem transomlaw05_Few.hE (k : Nat) : EnvOK (transomlaw05_Few.E k).toEnv := transomlaw05_Few.envok (transomlaw04_Few.ok k)
theorem transomlaw05_Few.segs_ok : ∀ k, ∀ s ∈ (transomlaw05_Few.E k).segs, SegOK (transomlaw05_Few.E k) Go.Proofs.Tryd.f18 s
  | 0 => by
    intro s hs
    simp only [transomlaw05_Few.E, env_transomlaw05_Few, List.mem_cons, List.not_mem_nil, or_false] at hs
    rcases hs with rfl
    · intro tvs blks res h; exfalso; simp only [seg_transomlaw05_Few_0] at h; split at h <;> simp [transomlaw05_Few.s0] at h
  | k + 1 => by
    intro s hs
    simp only [transomlaw05_Few.E, env_transomlaw05_Few, List.mem_cons, List.not_mem_nil, or_false] at hs
    rcases hs with rfl
    · refine seg_of_ev (E := transomlaw05_Few.E k) (transomlaw05_Few.hE k) ⟨transomlaw05_Few.is.rvs⟩ (transomlaw05_Few.segs_ok k) ?_
      intro tvs blks res h
      simp only [seg_transomlaw05_Few_0] at h
      split at h
      · exact (transomlaw05_Few.s0_ev.trans transomlaw05_Few.s0c_bind).trans h
      · simp at h
theorem transomlaw05_Few.ok (k : Nat) : CtOK Go.Proofs.Tryd.prog 18 (ct_transomlaw05_Few (transomlaw05_Few.f k)) := by
  refine ct_of_ev (E := transomlaw05_Few.E k) transomlaw05_Few.is (transomlaw05_Few.hE k) (transomlaw05_Few.segs_ok k) rfl ?_
  intro tvs blks res h
  simp only [ct_transomlaw05_Few] at h
  split at h
  · exact (transomlaw05_Few.ev.trans transomlaw05_Few.c_bind).trans h
  · simp at h
end Go.Proofs.YtddlebbjaadbeaaDoor.Aev
