/- By a program of this session (AEV): functions of the program as plain functions, and that the machine does what they say. -/
import Derived.Test.YtdbbkmmillnaiaaDoorTys
import Derived.Test.YtdbbkmmillnaiaaDoorProg
import Derived.Laws.Externs
import Derived.Lib.Bytealg
import Derived.Test.YtdbbkmmillnaiaaDoorF1
import Derived.Test.YtdbbkmmillnaiaaDoorF7
import Derived.Test.YtdbbkmmillnaiaaDoorF13
import Derived.Test.YtdbbkmmillnaiaaDoorF15
namespace Go.Proofs.YtdbbkmmillnaiaaDoor.Aev
set_option linter.unusedVariables false
set_option linter.unusedSimpArgs false
set_option maxRecDepth 100000
set_option maxHeartbeats 4000000
open Go Go.Proofs.Tryd
namespace transomlaw12_SheetChecks
abbrev G : Type := ByteArray → Int → (List D_api_Col) → (List D_api_Line) → Option Bool
def ct (g : G) : Ct where
  nin := 0
  mv := []
  F := fun tvs blks {β} K => match tvs, blks with
    | [.v (.agg [(.d .str a0), (.d (.int .i64) a1), (.d (.sl (.pair .str (.pair (.int .i64) (.pair .bool (.pair (.pair (.int .i64) (.pair (.int .i64) (.pair (.int .u64) (.pair .str .unit)))) .unit))))) a2), (.d (.sl (.pair .str (.pair (.sl (.pair (.int .i64) (.pair (.int .i64) (.pair (.int .u64) (.pair .str .unit))))) .unit))) a3)])], [] => (g a0 a1 a2 a3).bind fun r => K ⟨.v (.one (.d .bool r)), []⟩
    | _, _ => none
  legit := fun _ _ K _ h => by split at h; exact (legit1 K h :); simp at h
noncomputable def env (g7 : transomlaw12_Few.G) (g8 : sheet_Check.G) (g9 : transomref12_Check.G) (g10 : transomlaw12_awake.G)  : FEnv := { P := prog, ct := fun m => if m = 7 then some (transomlaw12_Few.ct g7) else if m = 8 then some (sheet_Check.ct g8) else if m = 9 then some (transomref12_Check.ct g9) else if m = 10 then some (transomlaw12_awake.ct g10) else none, N := 16, body := f3.body.getD .skip, rvs := [.tmp 2], rts := [4], nin := 0, rmv := [], segs := [] }
def c {β : Type} (g7 : transomlaw12_Few.G) (g8 : sheet_Check.G) (g9 : transomref12_Check.G) (g10 : transomlaw12_awake.G)  (a0 : ByteArray) (a1 : Int) (a2 : List D_api_Col) (a3 : List D_api_Line) (ret : Bool → Option β) : Option β := ((g7 a0 a1 a2 a3).bind fun r0 => (bif (r0 == (0 : Int)) then (g10.bind fun r1 => (ret (r1))) else ((g8 a0 a1 a2 a3).bind fun r2 => ((g9 a0 a1 a2 a3).bind fun r3 => (bif (r2 == r3) then (g10.bind fun r4 => (ret (r4))) else (ret (false)))))))
theorem c_bind {β : Type} {g7 : transomlaw12_Few.G} {g8 : sheet_Check.G} {g9 : transomref12_Check.G} {g10 : transomlaw12_awake.G}  {a0 : ByteArray} {a1 : Int} {a2 : List D_api_Col} {a3 : List D_api_Line} {ret : Bool → Option β} : c g7 g8 g9 g10  a0 a1 a2 a3 ret = (c g7 g8 g9 g10  a0 a1 a2 a3 some).bind ret := by
  simp only [c, bif_bind, sum_bind, oa, os, on, ofs]
theorem ev {g7 : transomlaw12_Few.G} {g8 : sheet_Check.G} {g9 : transomref12_Check.G} {g10 : transomlaw12_awake.G}  {a0 : ByteArray} {a1 : Int} {a2 : List D_api_Col} {a3 : List D_api_Line} : evAt (env g7 g8 g9 g10 ) [] [0] [.v (.agg [(.d .str a0), (.d (.int .i64) a1), (.d (.sl T_api_Col) a2), (.d (.sl T_api_Line) a3)])] [] some = c g7 g8 g9 g10  a0 a1 a2 a3 (fun r => some ⟨.v (.one (.d .bool r)), []⟩) := by
  kernel_rfl
def f (k : Nat) (a0 : ByteArray) (a1 : Int) (a2 : List D_api_Col) (a3 : List D_api_Line) : Option Bool := c (transomlaw12_Few.f k) (sheet_Check.f k) (transomref12_Check.f k) (transomlaw12_awake.f k)  a0 a1 a2 a3 some
theorem is {g7 : transomlaw12_Few.G} {g8 : sheet_Check.G} {g9 : transomref12_Check.G} {g10 : transomlaw12_awake.G}  : FnIs (env g7 g8 g9 g10 ) 3 f3 := ⟨func3, rfl, rfl, rfl, by decide⟩
theorem envok {g7 : transomlaw12_Few.G} {g8 : sheet_Check.G} {g9 : transomref12_Check.G} {g10 : transomlaw12_awake.G}  (h7 : CtOK prog 7 (transomlaw12_Few.ct g7)) (h8 : CtOK prog 8 (sheet_Check.ct g8)) (h9 : CtOK prog 9 (transomref12_Check.ct g9)) (h10 : CtOK prog 10 (transomlaw12_awake.ct g10)) : EnvOK (env g7 g8 g9 g10 ).toEnv := by
  intro f c h
  simp only [env] at h
  split at h
  · rename_i e; subst e; cases h; exact h7
  split at h
  · rename_i e; subst e; cases h; exact h8
  split at h
  · rename_i e; subst e; cases h; exact h9
  split at h
  · rename_i e; subst e; cases h; exact h10
  simp at h
noncomputable abbrev E (k : Nat) : FEnv := env (transomlaw12_Few.f k) (sheet_Check.f k) (transomref12_Check.f k) (transomlaw12_awake.f k) 
theorem hE (k : Nat) : EnvOK (E k).toEnv := envok (transomlaw12_Few.ok k) (sheet_Check.ok k) (transomref12_Check.ok k) (transomlaw12_awake.ok k)
theorem ok (k : Nat) : CtOK prog 3 (ct (f k)) := by
  refine ct_of_ev (E := E k) is (hE k) (fun s hs => by simp [E, env] at hs) rfl ?_
  intro tvs blks res h
  simp only [ct] at h
  split at h
  · exact (ev.trans c_bind).trans h
  · simp at h
end transomlaw12_SheetChecks
end Go.Proofs.YtdbbkmmillnaiaaDoor.Aev
