/- By a program of this session (AEV): functions of the program as plain functions, and that the machine does what they say. -/
import Derived.Test.YtddlebbjaadbeaaDoorTys
import Derived.Test.YtddlebbjaadbeaaDoorProg
import Derived.Laws.Externs
import Derived.Lib.Bytealg
import Derived.Test.YtddlebbjaadbeaaDoorF0
import Derived.Test.YtddlebbjaadbeaaDoorF2
import Derived.Test.YtddlebbjaadbeaaDoorF4
import Derived.Test.YtddlebbjaadbeaaDoorF11
import Derived.Test.YtddlebbjaadbeaaDoorF14
import Derived.Test.YtddlebbjaadbeaaDoorF15
namespace Go.Proofs.YtddlebbjaadbeaaDoor.Aev
set_option linter.unusedVariables false
set_option linter.unusedSimpArgs false
set_option maxRecDepth 100000
set_option maxHeartbeats 4000000
open Go
/-! ### transomlaw09_SchemaChecks: function 3 -/
abbrev G_transomlaw09_SchemaChecks : Type := ByteArray → Int → (List D_api_Col) → ByteArray → Option Bool
def ct_transomlaw09_SchemaChecks (g : G_transomlaw09_SchemaChecks) : Ct where
  nin := 0
  mv := []
  F := fun tvs blks {β} K => match tvs, blks with
    | [.v (.agg [(.d .str a0), (.d (.int .i64) a1), (.d (.sl (.pair .str (.pair (.int .i64) (.pair .bool (.pair (.pair (.int .i64) (.pair (.int .i64) (.pair (.int .u64) (.pair .str .unit)))) .unit))))) a2)]), .v (.one (.d .str a3))], [] => (g a0 a1 a2 a3).bind fun r => K ⟨.v (.one (.d .bool r)), []⟩
    | _, _ => none
  legit := fun tvs blks K r h => by
    split at h
    · obtain ⟨x, hx, hk⟩ := Option.bind_eq_some_iff.1 h
      refine ⟨_, ?_, hk⟩
      simp only [hx, Option.bind_some]
    · simp at h
abbrev S_transomlaw09_SchemaChecks_0 : Type := ByteArray → Bool → ByteArray → Int → (List D_api_Col) → Option Bool
abbrev S_transomlaw09_SchemaChecks_1 : Type := ByteArray → ByteArray → Int → (List D_api_Col) → Option Bool
abbrev S_transomlaw09_SchemaChecks_2 : Type := ByteArray → Int → ByteArray → Int → (List D_api_Col) → Option Bool
def seg_transomlaw09_SchemaChecks_0 (g : S_transomlaw09_SchemaChecks_0) : Seg where
  path := [1, 0, 1]
  prep := []
  keep := [1, 2, 13]
  F := fun tvs blks {β} K => match tvs, blks with
    | [.v (.one (.d .str x0)), .v (.one (.ptr 0 0)), .v (.one (.d .bool x1))], [some (.box [(.d .str x2), (.d (.int .i64) x3), (.d (.sl (.pair .str (.pair (.int .i64) (.pair .bool (.pair (.pair (.int .i64) (.pair (.int .i64) (.pair (.int .u64) (.pair .str .unit)))) .unit))))) x4)])] => (g x0 x1 x2 x3 x4).bind fun r => K ⟨.v (.one (.d .bool r)), []⟩
    | _, _ => none
  legit := fun tvs blks K r h => by
    split at h
    · obtain ⟨x, hx, hk⟩ := Option.bind_eq_some_iff.1 h
      refine ⟨_, ?_, hk⟩
      simp only [hx, Option.bind_some]
    · simp at h
def seg_transomlaw09_SchemaChecks_1 (g : S_transomlaw09_SchemaChecks_1) : Seg where
  path := [1, 1]
  prep := []
  keep := [1, 2]
  F := fun tvs blks {β} K => match tvs, blks with
    | [.v (.one (.d .str x0)), .v (.one (.ptr 0 0))], [some (.box [(.d .str x1), (.d (.int .i64) x2), (.d (.sl (.pair .str (.pair (.int .i64) (.pair .bool (.pair (.pair (.int .i64) (.pair (.int .i64) (.pair (.int .u64) (.pair .str .unit)))) .unit))))) x3)])] => (g x0 x1 x2 x3).bind fun r => K ⟨.v (.one (.d .bool r)), []⟩
    | _, _ => none
  legit := fun tvs blks K r h => by
    split at h
    · obtain ⟨x, hx, hk⟩ := Option.bind_eq_some_iff.1 h
      refine ⟨_, ?_, hk⟩
      simp only [hx, Option.bind_some]
    · simp at h
def seg_transomlaw09_SchemaChecks_2 (g : S_transomlaw09_SchemaChecks_2) : Seg where
  path := [4, 1, 0, 1, 1]
  prep := []
  keep := [1, 2, 5]
  F := fun tvs blks {β} K => match tvs, blks with
    | [.v (.one (.d .str x0)), .v (.one (.ptr 0 0)), .v (.one (.d (.int .i64) x1))], [some (.box [(.d .str x2), (.d (.int .i64) x3), (.d (.sl (.pair .str (.pair (.int .i64) (.pair .bool (.pair (.pair (.int .i64) (.pair (.int .i64) (.pair (.int .u64) (.pair .str .unit)))) .unit))))) x4)])] => (g x0 x1 x2 x3 x4).bind fun r => K ⟨.v (.one (.d .bool r)), []⟩
    | _, _ => none
  legit := fun tvs blks K r h => by
    split at h
    · obtain ⟨x, hx, hk⟩ := Option.bind_eq_some_iff.1 h
      refine ⟨_, ?_, hk⟩
      simp only [hx, Option.bind_some]
    · simp at h
noncomputable def env_transomlaw09_SchemaChecks (g6 : G_transomlaw09_Few) (g7 : G_transomlaw09_awake) (g8 : G_schema_CheckCol) (g9 : G_transomref09_CheckCol) (g10 : G_schema_Check) (g11 : G_transomref09_Check) (g12 : G_schema_Find) (g13 : G_transomref09_Find) (s0 : S_transomlaw09_SchemaChecks_0) (s1 : S_transomlaw09_SchemaChecks_1) (s2 : S_transomlaw09_SchemaChecks_2) : FEnv := { P := Go.Proofs.Tryd.prog, ct := fun m => if m = 6 then some (ct_transomlaw09_Few g6) else if m = 7 then some (ct_transomlaw09_awake g7) else if m = 8 then some (ct_schema_CheckCol g8) else if m = 9 then some (ct_transomref09_CheckCol g9) else if m = 10 then some (ct_schema_Check g10) else if m = 11 then some (ct_transomref09_Check g11) else if m = 12 then some (ct_schema_Find g12) else if m = 13 then some (ct_transomref09_Find g13) else none, N := 52, body := Go.Proofs.Tryd.f3.body.getD .skip, rvs := [.tmp 4], rts := [4], nin := 0, rmv := [], segs := [seg_transomlaw09_SchemaChecks_0 s0, seg_transomlaw09_SchemaChecks_1 s1, seg_transomlaw09_SchemaChecks_2 s2] }
def transomlaw09_SchemaChecks.c {β : Type} (g6 : G_transomlaw09_Few) (g7 : G_transomlaw09_awake) (g8 : G_schema_CheckCol) (g9 : G_transomref09_CheckCol) (g10 : G_schema_Check) (g11 : G_transomref09_Check) (g12 : G_schema_Find) (g13 : G_transomref09_Find) (s0 : S_transomlaw09_SchemaChecks_0) (s1 : S_transomlaw09_SchemaChecks_1) (s2 : S_transomlaw09_SchemaChecks_2) (a0 : ByteArray) (a1 : Int) (a2 : List D_api_Col) (a3 : ByteArray) (ret : Bool → Option β) : Option β := ((g6 a0 a1 a2).bind fun r0 => (bif (r0 == (0 : Int)) then ((s0 a3 true a0 a1 a2).bind ret) else ((s0 a3 (decide (((ByteArray.size a3) : Int) > (500 : Int))) a0 a1 a2).bind ret)))
def transomlaw09_SchemaChecks.s0c {β : Type} (g6 : G_transomlaw09_Few) (g7 : G_transomlaw09_awake) (g8 : G_schema_CheckCol) (g9 : G_transomref09_CheckCol) (g10 : G_schema_Check) (g11 : G_transomref09_Check) (g12 : G_schema_Find) (g13 : G_transomref09_Find) (s0 : S_transomlaw09_SchemaChecks_0) (s1 : S_transomlaw09_SchemaChecks_1) (s2 : S_transomlaw09_SchemaChecks_2) (x0 : ByteArray) (x1 : Bool) (x2 : ByteArray) (x3 : Int) (x4 : List D_api_Col) (ret : Bool → Option β) : Option β := (bif x1 then (g7.bind fun r0 => (ret (r0))) else ((s1 x0 x2 x3 x4).bind ret))
def transomlaw09_SchemaChecks.s1c {β : Type} (g6 : G_transomlaw09_Few) (g7 : G_transomlaw09_awake) (g8 : G_schema_CheckCol) (g9 : G_transomref09_CheckCol) (g10 : G_schema_Check) (g11 : G_transomref09_Check) (g12 : G_schema_Find) (g13 : G_transomref09_Find) (s0 : S_transomlaw09_SchemaChecks_0) (s1 : S_transomlaw09_SchemaChecks_1) (s2 : S_transomlaw09_SchemaChecks_2) (x0 : ByteArray) (x1 : ByteArray) (x2 : Int) (x3 : List D_api_Col) (ret : Bool → Option β) : Option β := ((s2 x0 (0 : Int) x1 x2 x3).bind ret)
def transomlaw09_SchemaChecks.s2c {β : Type} (g6 : G_transomlaw09_Few) (g7 : G_transomlaw09_awake) (g8 : G_schema_CheckCol) (g9 : G_transomref09_CheckCol) (g10 : G_schema_Check) (g11 : G_transomref09_Check) (g12 : G_schema_Find) (g13 : G_transomref09_Find) (s0 : S_transomlaw09_SchemaChecks_0) (s1 : S_transomlaw09_SchemaChecks_1) (s2 : S_transomlaw09_SchemaChecks_2) (x0 : ByteArray) (x1 : Int) (x2 : ByteArray) (x3 : Int) (x4 : List D_api_Col) (ret : Bool → Option β) : Option β := (bif (decide (x1 < ((List.length x4) : Int))) then (bif ((decide ((0 : Int) ≤ x1)) && (decide (x1 < ((List.length x4) : Int)))) then ((g8 (elem T_api_Col x4 x1).1 (elem T_api_Col x4 x1).2.1 (elem T_api_Col x4 x1).2.2.1 (elem T_api_Col x4 x1).2.2.2.1.1 (elem T_api_Col x4 x1).2.2.2.1.2.1 (elem T_api_Col x4 x1).2.2.2.1.2.2.1 (elem T_api_Col x4 x1).2.2.2.1.2.2.2.1).bind fun r0 => (bif ((decide ((0 : Int) ≤ x1)) && (decide (x1 < ((List.length x4) : Int)))) then ((g9 (elem T_api_Col x4 x1).1 (elem T_api_Col x4 x1).2.1 (elem T_api_Col x4 x1).2.2.1 (elem T_api_Col x4 x1).2.2.2.1.1 (elem T_api_Col x4 x1).2.2.2.1.2.1 (elem T_api_Col x4 x1).2.2.2.1.2.2.1 (elem T_api_Col x4 x1).2.2.2.1.2.2.2.1).bind fun r1 => (bif (r0 != r1) then (ret (false)) else ((s2 x0 (IntKind.wrap IntKind.i64 (x1 + (1 : Int))) x2 x3 x4).bind ret))) else none)) else none) else ((g10 x2 x3 x4).bind fun r2 => ((g11 x2 x3 x4).bind fun r3 => (bif (r2 == r3) then ((g12 x2 x3 x4 x0).bind fun r4 => ((g13 x2 x3 x4 x0).bind fun r5 => (bif (r4 == r5) then (g7.bind fun r6 => (ret (r6))) else (ret (false))))) else (ret (false))))))
theorem transomlaw09_SchemaChecks.c_bind {β : Type} {g6 : G_transomlaw09_Few} {g7 : G_transomlaw09_awake} {g8 : G_schema_CheckCol} {g9 : G_transomref09_CheckCol} {g10 : G_schema_Check} {g11 : G_transomref09_Check} {g12 : G_schema_Find} {g13 : G_transomref09_Find} {s0 : S_transomlaw09_SchemaChecks_0} {s1 : S_transomlaw09_SchemaChecks_1} {s2 : S_transomlaw09_SchemaChecks_2} {a0 : ByteArray} {a1 : Int} {a2 : List D_api_Col} {a3 : ByteArray} {ret : Bool → Option β} : transomlaw09_SchemaChecks.c g6 g7 g8 g9 g10 g11 g12 g13 s0 s1 s2 a0 a1 a2 a3 ret = (transomlaw09_SchemaChecks.c g6 g7 g8 g9 g10 g11 g12 g13 s0 s1 s2 a0 a1 a2 a3 some).bind ret := by
  simp only [transomlaw09_SchemaChecks.c, bif_bind, sum_bind, Option.bind_assoc, Option.bind_some, Option.bind_none, Option.bind_fun_some]
theorem transomlaw09_SchemaChecks.s0c_bind {β : Type} {g6 : G_transomlaw09_Few} {g7 : G_transomlaw09_awake} {g8 : G_schema_CheckCol} {g9 : G_transomref09_CheckCol} {g10 : G_schema_Check} {g11 : G_transomref09_Check} {g12 : G_schema_Find} {g13 : G_transomref09_Find} {s0 : S_transomlaw09_SchemaChecks_0} {s1 : S_transomlaw09_SchemaChecks_1} {s2 : S_transomlaw09_SchemaChecks_2} {x0 : ByteArray} {x1 : Bool} {x2 : ByteArray} {x3 : Int} {x4 : List D_api_Col} {ret : Bool → Option β} : transomlaw09_SchemaChecks.s0c g6 g7 g8 g9 g10 g11 g12 g13 s0 s1 s2 x0 x1 x2 x3 x4 ret = (transomlaw09_SchemaChecks.s0c g6 g7 g8 g9 g10 g11 g12 g13 s0 s1 s2 x0 x1 x2 x3 x4 some).bind ret := by
  simp only [transomlaw09_SchemaChecks.s0c, bif_bind, sum_bind, Option.bind_assoc, Option.bind_some, Option.bind_none, Option.bind_fun_some]
theorem transomlaw09_SchemaChecks.s1c_bind {β : Type} {g6 : G_transomlaw09_Few} {g7 : G_transomlaw09_awake} {g8 : G_schema_CheckCol} {g9 : G_transomref09_CheckCol} {g10 : G_schema_Check} {g11 : G_transomref09_Check} {g12 : G_schema_Find} {g13 : G_transomref09_Find} {s0 : S_transomlaw09_SchemaChecks_0} {s1 : S_transomlaw09_SchemaChecks_1} {s2 : S_transomlaw09_SchemaChecks_2} {x0 : ByteArray} {x1 : ByteArray} {x2 : Int} {x3 : List D_api_Col} {ret : Bool → Option β} : transomlaw09_SchemaChecks.s1c g6 g7 g8 g9 g10 g11 g12 g13 s0 s1 s2 x0 x1 x2 x3 ret = (transomlaw09_SchemaChecks.s1c g6 g7 g8 g9 g10 g11 g12 g13 s0 s1 s2 x0 x1 x2 x3 some).bind ret := by
  simp only [transomlaw09_SchemaChecks.s1c, bif_bind, sum_bind, Option.bind_assoc, Option.bind_some, Option.bind_none, Option.bind_fun_some]
theorem transomlaw09_SchemaChecks.s2c_bind {β : Type} {g6 : G_transomlaw09_Few} {g7 : G_transomlaw09_awake} {g8 : G_schema_CheckCol} {g9 : G_transomref09_CheckCol} {g10 : G_schema_Check} {g11 : G_transomref09_Check} {g12 : G_schema_Find} {g13 : G_transomref09_Find} {s0 : S_transomlaw09_SchemaChecks_0} {s1 : S_transomlaw09_SchemaChecks_1} {s2 : S_transomlaw09_SchemaChecks_2} {x0 : ByteArray} {x1 : Int} {x2 : ByteArray} {x3 : Int} {x4 : List D_api_Col} {ret : Bool → Option β} : transomlaw09_SchemaChecks.s2c g6 g7 g8 g9 g10 g11 g12 g13 s0 s1 s2 x0 x1 x2 x3 x4 ret = (transomlaw09_SchemaChecks.s2c g6 g7 g8 g9 g10 g11 g12 g13 s0 s1 s2 x0 x1 x2 x3 x4 some).bind ret := by
  simp only [transomlaw09_SchemaChecks.s2c, bif_bind, sum_bind, Option.bind_assoc, Option.bind_some, Option.bind_none, Option.bind_fun_some]
theorem transomlaw09_SchemaChecks.ev {g6 : G_transomlaw09_Few} {g7 : G_transomlaw09_awake} {g8 : G_schema_CheckCol} {g9 : G_transomref09_CheckCol} {g10 : G_schema_Check} {g11 : G_transomref09_Check} {g12 : G_schema_Find} {g13 : G_transomref09_Find} {s0 : S_transomlaw09_SchemaChecks_0} {s1 : S_transomlaw09_SchemaChecks_1} {s2 : S_transomlaw09_SchemaChecks_2} {a0 : ByteArray} {a1 : Int} {a2 : List D_api_Col} {a3 : ByteArray} : evAt (env_transomlaw09_SchemaChecks g6 g7 g8 g9 g10 g11 g12 g13 s0 s1 s2) [] [0, 1] [.v (.agg [(.d .str a0), (.d (.int .i64) a1), (.d (.sl T_api_Col) a2)]), .v (.one (.d .str a3))] [] some = transomlaw09_SchemaChecks.c g6 g7 g8 g9 g10 g11 g12 g13 s0 s1 s2 a0 a1 a2 a3 (fun r => some ⟨.v (.one (.d .bool r)), []⟩) := by
  kernel_rfl
theorem transomlaw09_SchemaChecks.s0_ev {g6 : G_transomlaw09_Few} {g7 : G_transomlaw09_awake} {g8 : G_schema_CheckCol} {g9 : G_transomref09_CheckCol} {g10 : G_schema_Check} {g11 : G_transomref09_Check} {g12 : G_schema_Find} {g13 : G_transomref09_Find} {s0 : S_transomlaw09_SchemaChecks_0} {s1 : S_transomlaw09_SchemaChecks_1} {s2 : S_transomlaw09_SchemaChecks_2} {x0 : ByteArray} {x1 : Bool} {x2 : ByteArray} {x3 : Int} {x4 : List D_api_Col} : evAt (env_transomlaw09_SchemaChecks g6 g7 g8 g9 g10 g11 g12 g13 s0 s1 s2) [1, 0, 1] [1, 2, 13] [.v (.one (.d .str x0)), .v (.one (.ptr 0 0)), .v (.one (.d .bool x1))] [some (.box [(.d .str x2), (.d (.int .i64) x3), (.d (.sl T_api_Col) x4)])] some = transomlaw09_SchemaChecks.s0c g6 g7 g8 g9 g10 g11 g12 g13 s0 s1 s2 x0 x1 x2 x3 x4 (fun r => some ⟨.v (.one (.d .bool r)), []⟩) := by
  kernel_rfl
theorem transomlaw09_SchemaChecks.s1_ev {g6 : G_transomlaw09_Few} {g7 : G_transomlaw09_awake} {g8 : G_schema_CheckCol} {g9 : G_transomref09_CheckCol} {g10 : G_schema_Check} {g11 : G_transomref09_Check} {g12 : G_schema_Find} {g13 : G_transomref09_Find} {s0 : S_transomlaw09_SchemaChecks_0} {s1 : S_transomlaw09_SchemaChecks_1} {s2 : S_transomlaw09_SchemaChecks_2} {x0 : ByteArray} {x1 : ByteArray} {x2 : Int} {x3 : List D_api_Col} : evAt (env_transomlaw09_SchemaChecks g6 g7 g8 g9 g10 g11 g12 g13 s0 s1 s2) [1, 1] [1, 2] [.v (.one (.d .str x0)), .v (.one (.ptr 0 0))] [some (.box [(.d .str x1), (.d (.int .i64) x2), (.d (.sl T_api_Col) x3)])] some = transomlaw09_SchemaChecks.s1c g6 g7 g8 g9 g10 g11 g12 g13 s0 s1 s2 x0 x1 x2 x3 (fun r => some ⟨.v (.one (.d .bool r)), []⟩) := by
  kernel_rfl
theorem transomlaw09_SchemaChecks.s2_ev {g6 : G_transomlaw09_Few} {g7 : G_transomlaw09_awake} {g8 : G_schema_CheckCol} {g9 : G_transomref09_CheckCol} {g10 : G_schema_Check} {g11 : G_transomref09_Check} {g12 : G_schema_Find} {g13 : G_transomref09_Find} {s0 : S_transomlaw09_SchemaChecks_0} {s1 : S_transomlaw09_SchemaChecks_1} {s2 : S_transomlaw09_SchemaChecks_2} {x0 : ByteArray} {x1 : Int} {x2 : ByteArray} {x3 : Int} {x4 : List D_api_Col} : evAt (env_transomlaw09_SchemaChecks g6 g7 g8 g9 g10 g11 g12 g13 s0 s1 s2) [4, 1, 0, 1, 1] [1, 2, 5] [.v (.one (.d .str x0)), .v (.one (.ptr 0 0)), .v (.one (.d (.int .i64) x1))] [some (.box [(.d .str x2), (.d (.int .i64) x3), (.d (.sl T_api_Col) x4)])] some = transomlaw09_SchemaChecks.s2c g6 g7 g8 g9 g10 g11 g12 g13 s0 s1 s2 x0 x1 x2 x3 x4 (fun r => some ⟨.v (.one (.d .bool r)), []⟩) := by
  kernel_rfl
mutual
def transomlaw09_SchemaChecks.s0 : Nat → ByteArray → Bool → ByteArray → Int → (List D_api_Col) → Option Bool
  | 0, _, _, _, _, _ => none
  | k + 1, x0, x1, x2, x3, x4 => transomlaw09_SchemaChecks.s0c (transomlaw09_Few.f k) (transomlaw09_awake.f k) (schema_CheckCol.f k) (transomref09_CheckCol.f k) (schema_Check.f k) (transomref09_Check.f k) (schema_Find.f k) (transomref09_Find.f k) (transomlaw09_SchemaChecks.s0 k) (transomlaw09_SchemaChecks.s1 k) (transomlaw09_SchemaChecks.s2 k) x0 x1 x2 x3 x4 some
def transomlaw09_SchemaChecks.s1 : Nat → ByteArray → ByteArray → Int → (List D_api_Col) → Option Bool
  | 0, _, _, _, _ => none
  | k + 1, x0, x1, x2, x3 => transomlaw09_SchemaChecks.s1c (transomlaw09_Few.f k) (transomlaw09_awake.f k) (schema_CheckCol.f k) (transomref09_CheckCol.f k) (schema_Check.f k) (transomref09_Check.f k) (schema_Find.f k) (transomref09_Find.f k) (transomlaw09_SchemaChecks.s0 k) (transomlaw09_SchemaChecks.s1 k) (transomlaw09_SchemaChecks.s2 k) x0 x1 x2 x3 some
def transomlaw09_SchemaChecks.s2 : Nat → ByteArray → Int → ByteArray → Int → (List D_api_Col) → Option Bool
  | 0, _, _, _, _, _ => none
  | k + 1, x0, x1, x2, x3, x4 => transomlaw09_SchemaChecks.s2c (transomlaw09_Few.f k) (transomlaw09_awake.f k) (schema_CheckCol.f k) (transomref09_CheckCol.f k) (schema_Check.f k) (transomref09_Check.f k) (schema_Find.f k) (transomref09_Find.f k) (transomlaw09_SchemaChecks.s0 k) (transomlaw09_SchemaChecks.s1 k) (transomlaw09_SchemaChecks.s2 k) x0 x1 x2 x3 x4 some
end
def transomlaw09_SchemaChecks.f (k : Nat) (a0 : ByteArray) (a1 : Int) (a2 : List D_api_Col) (a3 : ByteArray) : Option Bool := transomlaw09_SchemaChecks.c (transomlaw09_Few.f k) (transomlaw09_awake.f k) (schema_CheckCol.f k) (transomref09_CheckCol.f k) (schema_Check.f k) (transomref09_Check.f k) (schema_Find.f k) (transomref09_Find.f k) (transomlaw09_SchemaChecks.s0 k) (transomlaw09_SchemaChecks.s1 k) (transomlaw09_SchemaChecks.s2 k) a0 a1 a2 a3 some
theorem transomlaw09_SchemaChecks.is {g6 : G_transomlaw09_Few} {g7 : G_transomlaw09_awake} {g8 : G_schema_CheckCol} {g9 : G_transomref09_CheckCol} {g10 : G_schema_Check} {g11 : G_transomref09_Check} {g12 : G_schema_Find} {g13 : G_transomref09_Find} {s0 : S_transomlaw09_SchemaChecks_0} {s1 : S_transomlaw09_SchemaChecks_1} {s2 : S_transomlaw09_SchemaChecks_2} : FnIs (env_transomlaw09_SchemaChecks g6 g7 g8 g9 g10 g11 g12 g13 s0 s1 s2) 3 Go.Proofs.Tryd.f3 := ⟨Go.Proofs.Tryd.func3, rfl, rfl, rfl, by decide⟩
theorem transomlaw09_SchemaChecks.envok {g6 : G_transomlaw09_Few} {g7 : G_transomlaw09_awake} {g8 : G_schema_CheckCol} {g9 : G_transomref09_CheckCol} {g10 : G_schema_Check} {g11 : G_transomref09_Check} {g12 : G_schema_Find} {g13 : G_transomref09_Find} {s0 : S_transomlaw09_SchemaChecks_0} {s1 : S_transomlaw09_SchemaChecks_1} {s2 : S_transomlaw09_SchemaChecks_2} (h6 : CtOK Go.Proofs.Tryd.prog 6 (ct_transomlaw09_Few g6)) (h7 : CtOK Go.Proofs.Tryd.prog 7 (ct_transomlaw09_awake g7)) (h8 : CtOK Go.Proofs.Tryd.prog 8 (ct_schema_CheckCol g8)) (h9 : CtOK Go.Proofs.Tryd.prog 9 (ct_transomref09_CheckCol g9)) (h10 : CtOK Go.Proofs.Tryd.prog 10 (ct_schema_Check g10)) (h11 : CtOK Go.Proofs.Tryd.prog 11 (ct_transomref09_Check g11)) (h12 : CtOK Go.Proofs.Tryd.prog 12 (ct_schema_Find g12)) (h13 : CtOK Go.Proofs.Tryd.prog 13 (ct_transomref09_Find g13)) : EnvOK (env_transomlaw09_SchemaChecks g6 g7 g8 g9 g10 g11 g12 g13 s0 s1 s2).toEnv := by
  intro f c h
  simp only [env_transomlaw09_SchemaChecks] at h
  split at h
  · rename_i e; subst e; cases h; exact h6
  split at h
  · rename_i e; subst e; cases h; exact h7
  split at h
  · rename_i e; subst e; cases h; exact h8
  split at h
  · rename_i e; subst e; cases h; exact h9
  split at h
  · rename_i e; subst e; cases h; exact h10
  split at h
  · rename_i e; subst e; cases h; exact h11
  split at h
  · rename_i e; subst e; cases h; exact h12
  split at h
  · rename_i e; subst e; cases h; exact h13
  simp at h
noncomputable abbrev transomlaw09_SchemaChecks.E (k : Nat) : FEnv := env_transomlaw09_SchemaChecks (transomlaw09_Few.f k) (transomlaw09_awake.f k) (schema_CheckCol.f k) (transomref09_CheckCol.f k) (schema_Check.f k) (transomref09_Check.f k) (schema_Find.f k) (transomref09_Find.f k) (transomlaw09_SchemaChecks.s0 k) (transomlaw09_SchemaChecks.s1 k) (transomlaw09_SchemaChecks.s2 k)
theorem transomlaw09_SchemaChecks.hE (k : Nat) : EnvOK (transomlaw09_SchemaChecks.E k).toEnv := transomlaw09_SchemaChecks.envok (transomlaw09_Few.ok k) (transomlaw09_awake.ok k) (schema_CheckCol.ok k) (transomref09_CheckCol.ok k) (schema_Check.ok k) (transomref09_Check.ok k) (schema_Find.ok k) (transomref09_Find.ok k)
theorem transomlaw09_SchemaChecks.segs_ok : ∀ k, ∀ s ∈ (transomlaw09_SchemaChecks.E k).segs, SegOK (transomlaw09_SchemaChecks.E k) Go.Proofs.Tryd.f3 s
  | 0 => by
    intro s hs
    simp only [transomlaw09_SchemaChecks.E, env_transomlaw09_SchemaChecks, List.mem_cons, List.not_mem_nil, or_false] at hs
    rcases hs with rfl | rfl | rfl
    · intro tvs blks res h; exfalso; simp only [seg_transomlaw09_SchemaChecks_0] at h; split at h <;> simp [transomlaw09_SchemaChecks.s0] at h
    · intro tvs blks res h; exfalso; simp only [seg_transomlaw09_SchemaChecks_1] at h; split at h <;> simp [transomlaw09_SchemaChecks.s1] at h
    · intro tvs blks res h; exfalso; simp only [seg_transomlaw09_SchemaChecks_2] at h; split at h <;> simp [transomlaw09_SchemaChecks.s2] at h
  | k + 1 => by
    intro s hs
    simp only [transomlaw09_SchemaChecks.E, env_transomlaw09_SchemaChecks, List.mem_cons, List.not_mem_nil, or_false] at hs
    rcases hs with rfl | rfl | rfl
    · refine seg_of_ev (E := transomlaw09_SchemaChecks.E k) (transomlaw09_SchemaChecks.hE k) ⟨transomlaw09_SchemaChecks.is.rvs⟩ (transomlaw09_SchemaChecks.segs_ok k) ?_
      intro tvs blks res h
      simp only [seg_transomlaw09_SchemaChecks_0] at h
      split at h
      · exact (transomlaw09_SchemaChecks.s0_ev.trans transomlaw09_SchemaChecks.s0c_bind).trans h
      · simp at h
    · refine seg_of_ev (E := transomlaw09_SchemaChecks.E k) (transomlaw09_SchemaChecks.hE k) ⟨transomlaw09_SchemaChecks.is.rvs⟩ (transomlaw09_SchemaChecks.segs_ok k) ?_
      intro tvs blks res h
      simp only [seg_transomlaw09_SchemaChecks_1] at h
      split at h
      · exact (transomlaw09_SchemaChecks.s1_ev.trans transomlaw09_SchemaChecks.s1c_bind).trans h
      · simp at h
    · refine seg_of_ev (E := transomlaw09_SchemaChecks.E k) (transomlaw09_SchemaChecks.hE k) ⟨transomlaw09_SchemaChecks.is.rvs⟩ (transomlaw09_SchemaChecks.segs_ok k) ?_
      intro tvs blks res h
      simp only [seg_transomlaw09_SchemaChecks_2] at h
      split at h
      · exact (transomlaw09_SchemaChecks.s2_ev.trans transomlaw09_SchemaChecks.s2c_bind).trans h
      · simp at h
theorem transomlaw09_SchemaChecks.ok (k : Nat) : CtOK Go.Proofs.Tryd.prog 3 (ct_transomlaw09_SchemaChecks (transomlaw09_SchemaChecks.f k)) := by
  refine ct_of_ev (E := transomlaw09_SchemaChecks.E k) transomlaw09_SchemaChecks.is (transomlaw09_SchemaChecks.hE k) (transomlaw09_SchemaChecks.segs_ok k) rfl ?_
  intro tvs blks res h
  simp only [ct_transomlaw09_SchemaChecks] at h
  split at h
  · exact (transomlaw09_SchemaChecks.ev.trans transomlaw09_SchemaChecks.c_bind).trans h
  · simp at h
end Go.Proofs.YtddlebbjaadbeaaDoor.Aev
