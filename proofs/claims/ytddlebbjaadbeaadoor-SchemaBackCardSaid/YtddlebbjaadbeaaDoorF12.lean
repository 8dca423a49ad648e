/- By a program of this session (AEV): functions of the program as plain functions, and that the machine does what they say. -/
import Derived.Test.YtddlebbjaadbeaaDoorTys
import Derived.Test.YtddlebbjaadbeaaDoorProg
import Derived.Laws.Externs
import Derived.Lib.Bytealg
import Derived.Test.YtddlebbjaadbeaaDoorF0
import Derived.Test.YtddlebbjaadbeaaDoorF6
import Derived.Test.YtddlebbjaadbeaaDoorF10
import Derived.Test.YtddlebbjaadbeaaDoorF11
namespace Go.Proofs.YtddlebbjaadbeaaDoor.Aev
set_option linter.unusedVariables false
set_option linter.unusedSimpArgs false
set_option maxRecDepth 100000
set_option maxHeartbeats 4000000
open Go
/-! ### transomlaw09_SchemaBack: function 4 -/
abbrev G_transomlaw09_SchemaBack : Type := ByteArray → Int → (List D_api_Col) → ByteArray → Int → (List D_api_Col) → ByteArray → Option Bool
def ct_transomlaw09_SchemaBack (g : G_transomlaw09_SchemaBack) : Ct where
  nin := 0
  mv := []
  F := fun tvs blks {β} K => match tvs, blks with
    | [.v (.agg [(.d .str a0), (.d (.int .i64) a1), (.d (.sl (.pair .str (.pair (.int .i64) (.pair .bool (.pair (.pair (.int .i64) (.pair (.int .i64) (.pair (.int .u64) (.pair .str .unit)))) .unit))))) a2)]), .v (.agg [(.d .str a3), (.d (.int .i64) a4), (.d (.sl (.pair .str (.pair (.int .i64) (.pair .bool (.pair (.pair (.int .i64) (.pair (.int .i64) (.pair (.int .u64) (.pair .str .unit)))) .unit))))) a5)]), .v (.one (.d .str a6))], [] => (g a0 a1 a2 a3 a4 a5 a6).bind fun r => K ⟨.v (.one (.d .bool r)), []⟩
    | _, _ => none
  legit := fun tvs blks K r h => by
    split at h
    · obtain ⟨x, hx, hk⟩ := Option.bind_eq_some_iff.1 h
      refine ⟨_, ?_, hk⟩
      simp only [hx, Option.bind_some]
    · simp at h
abbrev S_transomlaw09_SchemaBack_0 : Type := ByteArray → Bool → ByteArray → Int → (List D_api_Col) → ByteArray → Int → (List D_api_Col) → Option Bool
abbrev S_transomlaw09_SchemaBack_1 : Type := ByteArray → ByteArray → Int → (List D_api_Col) → ByteArray → Int → (List D_api_Col) → Option Bool
abbrev S_transomlaw09_SchemaBack_2 : Type := Bool → Option Bool
abbrev S_transomlaw09_SchemaBack_3 : Type := ByteArray → Bool → ByteArray → Int → (List D_api_Col) → ByteArray → Int → (List D_api_Col) → Option Bool
abbrev S_transomlaw09_SchemaBack_4 : Type := ByteArray → ByteArray → Int → (List D_api_Col) → ByteArray → Int → (List D_api_Col) → Option Bool
def seg_transomlaw09_SchemaBack_0 (g : S_transomlaw09_SchemaBack_0) : Seg where
  path := [1, 0, 1]
  prep := []
  keep := [2, 3, 4, 26]
  F := fun tvs blks {β} K => match tvs, blks with
    | [.v (.one (.d .str x0)), .v (.one (.ptr 0 0)), .v (.one (.ptr 1 0)), .v (.one (.d .bool x1))], [some (.box [(.d .str x2), (.d (.int .i64) x3), (.d (.sl (.pair .str (.pair (.int .i64) (.pair .bool (.pair (.pair (.int .i64) (.pair (.int .i64) (.pair (.int .u64) (.pair .str .unit)))) .unit))))) x4)]), some (.box [(.d .str x5), (.d (.int .i64) x6), (.d (.sl (.pair .str (.pair (.int .i64) (.pair .bool (.pair (.pair (.int .i64) (.pair (.int .i64) (.pair (.int .u64) (.pair .str .unit)))) .unit))))) x7)])] => (g x0 x1 x2 x3 x4 x5 x6 x7).bind fun r => K ⟨.v (.one (.d .bool r)), []⟩
    | _, _ => none
  legit := fun tvs blks K r h => by
    split at h
    · obtain ⟨x, hx, hk⟩ := Option.bind_eq_some_iff.1 h
      refine ⟨_, ?_, hk⟩
      simp only [hx, Option.bind_some]
    · simp at h
def seg_transomlaw09_SchemaBack_1 (g : S_transomlaw09_SchemaBack_1) : Seg where
  path := [1, 1]
  prep := []
  keep := [2, 3, 4]
  F := fun tvs blks {β} K => match tvs, blks with
    | [.v (.one (.d .str x0)), .v (.one (.ptr 0 0)), .v (.one (.ptr 1 0))], [some (.box [(.d .str x1), (.d (.int .i64) x2), (.d (.sl (.pair .str (.pair (.int .i64) (.pair .bool (.pair (.pair (.int .i64) (.pair (.int .i64) (.pair (.int .u64) (.pair .str .unit)))) .unit))))) x3)]), some (.box [(.d .str x4), (.d (.int .i64) x5), (.d (.sl (.pair .str (.pair (.int .i64) (.pair .bool (.pair (.pair (.int .i64) (.pair (.int .i64) (.pair (.int .u64) (.pair .str .unit)))) .unit))))) x6)])] => (g x0 x1 x2 x3 x4 x5 x6).bind fun r => K ⟨.v (.one (.d .bool r)), []⟩
    | _, _ => none
  legit := fun tvs blks K r h => by
    split at h
    · obtain ⟨x, hx, hk⟩ := Option.bind_eq_some_iff.1 h
      refine ⟨_, ?_, hk⟩
      simp only [hx, Option.bind_some]
    · simp at h
def seg_transomlaw09_SchemaBack_2 (g : S_transomlaw09_SchemaBack_2) : Seg where
  path := [1, 2, 1, 0, 1, 1, 1]
  prep := []
  keep := [6]
  F := fun tvs blks {β} K => match tvs, blks with
    | [.v (.one (.d .bool x0))], [] => (g x0).bind fun r => K ⟨.v (.one (.d .bool r)), []⟩
    | _, _ => none
  legit := fun tvs blks K r h => by
    split at h
    · obtain ⟨x, hx, hk⟩ := Option.bind_eq_some_iff.1 h
      refine ⟨_, ?_, hk⟩
      simp only [hx, Option.bind_some]
    · simp at h
def seg_transomlaw09_SchemaBack_3 (g : S_transomlaw09_SchemaBack_3) : Seg where
  path := [1, 0, 1, 1, 1, 1, 1]
  prep := []
  keep := [3, 4, 7, 60]
  F := fun tvs blks {β} K => match tvs, blks with
    | [.v (.one (.ptr 0 0)), .v (.one (.ptr 1 0)), .v (.one (.d .str x0)), .v (.one (.d .bool x1))], [some (.box [(.d .str x2), (.d (.int .i64) x3), (.d (.sl (.pair .str (.pair (.int .i64) (.pair .bool (.pair (.pair (.int .i64) (.pair (.int .i64) (.pair (.int .u64) (.pair .str .unit)))) .unit))))) x4)]), some (.box [(.d .str x5), (.d (.int .i64) x6), (.d (.sl (.pair .str (.pair (.int .i64) (.pair .bool (.pair (.pair (.int .i64) (.pair (.int .i64) (.pair (.int .u64) (.pair .str .unit)))) .unit))))) x7)])] => (g x0 x1 x2 x3 x4 x5 x6 x7).bind fun r => K ⟨.v (.one (.d .bool r)), []⟩
    | _, _ => none
  legit := fun tvs blks K r h => by
    split at h
    · obtain ⟨x, hx, hk⟩ := Option.bind_eq_some_iff.1 h
      refine ⟨_, ?_, hk⟩
      simp only [hx, Option.bind_some]
    · simp at h
def seg_transomlaw09_SchemaBack_4 (g : S_transomlaw09_SchemaBack_4) : Seg where
  path := [1, 1, 1, 1, 1, 1]
  prep := []
  keep := [3, 4, 7]
  F := fun tvs blks {β} K => match tvs, blks with
    | [.v (.one (.ptr 0 0)), .v (.one (.ptr 1 0)), .v (.one (.d .str x0))], [some (.box [(.d .str x1), (.d (.int .i64) x2), (.d (.sl (.pair .str (.pair (.int .i64) (.pair .bool (.pair (.pair (.int .i64) (.pair (.int .i64) (.pair (.int .u64) (.pair .str .unit)))) .unit))))) x3)]), some (.box [(.d .str x4), (.d (.int .i64) x5), (.d (.sl (.pair .str (.pair (.int .i64) (.pair .bool (.pair (.pair (.int .i64) (.pair (.int .i64) (.pair (.int .u64) (.pair .str .unit)))) .unit))))) x6)])] => (g x0 x1 x2 x3 x4 x5 x6).bind fun r => K ⟨.v (.one (.d .bool r)), []⟩
    | _, _ => none
  legit := fun tvs blks K r h => by
    split at h
    · obtain ⟨x, hx, hk⟩ := Option.bind_eq_some_iff.1 h
      refine ⟨_, ?_, hk⟩
      simp only [hx, Option.bind_some]
    · simp at h
noncomputable def env_transomlaw09_SchemaBack (g6 : G_transomlaw09_Few) (g7 : G_transomlaw09_awake) (g14 : G_schema_Put) (g15 : G_schema_Read) (g16 : G_transomref09_Same) (g17 : G_schema_Same) (s0 : S_transomlaw09_SchemaBack_0) (s1 : S_transomlaw09_SchemaBack_1) (s2 : S_transomlaw09_SchemaBack_2) (s3 : S_transomlaw09_SchemaBack_3) (s4 : S_transomlaw09_SchemaBack_4) : FEnv := { P := Go.Proofs.Tryd.prog, ct := fun m => if m = 6 then some (ct_transomlaw09_Few g6) else if m = 7 then some (ct_transomlaw09_awake g7) else if m = 14 then some (ct_schema_Put g14) else if m = 15 then some (ct_schema_Read g15) else if m = 16 then some (ct_transomref09_Same g16) else if m = 17 then some (ct_schema_Same g17) else none, N := 80, body := Go.Proofs.Tryd.f4.body.getD .skip, rvs := [.tmp 6], rts := [4], nin := 0, rmv := [], segs := [seg_transomlaw09_SchemaBack_0 s0, seg_transomlaw09_SchemaBack_1 s1, seg_transomlaw09_SchemaBack_2 s2, seg_transomlaw09_SchemaBack_3 s3, seg_transomlaw09_SchemaBack_4 s4] }
def transomlaw09_SchemaBack.c {β : Type} (g6 : G_transomlaw09_Few) (g7 : G_transomlaw09_awake) (g14 : G_schema_Put) (g15 : G_schema_Read) (g16 : G_transomref09_Same) (g17 : G_schema_Same) (s0 : S_transomlaw09_SchemaBack_0) (s1 : S_transomlaw09_SchemaBack_1) (s2 : S_transomlaw09_SchemaBack_2) (s3 : S_transomlaw09_SchemaBack_3) (s4 : S_transomlaw09_SchemaBack_4) (a0 : ByteArray) (a1 : Int) (a2 : List D_api_Col) (a3 : ByteArray) (a4 : Int) (a5 : List D_api_Col) (a6 : ByteArray) (ret : Bool → Option β) : Option β := ((g6 a0 a1 a2).bind fun r0 => (bif (r0 == (0 : Int)) then ((s0 a6 true a0 a1 a2 a3 a4 a5).bind ret) else ((g6 a3 a4 a5).bind fun r1 => (bif (r1 == (0 : Int)) then ((s0 a6 true a0 a1 a2 a3 a4 a5).bind ret) else ((s0 a6 (decide (((ByteArray.size a6) : Int) > (2000 : Int))) a0 a1 a2 a3 a4 a5).bind ret)))))
def transomlaw09_SchemaBack.s0c {β : Type} (g6 : G_transomlaw09_Few) (g7 : G_transomlaw09_awake) (g14 : G_schema_Put) (g15 : G_schema_Read) (g16 : G_transomref09_Same) (g17 : G_schema_Same) (s0 : S_transomlaw09_SchemaBack_0) (s1 : S_transomlaw09_SchemaBack_1) (s2 : S_transomlaw09_SchemaBack_2) (s3 : S_transomlaw09_SchemaBack_3) (s4 : S_transomlaw09_SchemaBack_4) (x0 : ByteArray) (x1 : Bool) (x2 : ByteArray) (x3 : Int) (x4 : List D_api_Col) (x5 : ByteArray) (x6 : Int) (x7 : List D_api_Col) (ret : Bool → Option β) : Option β := (bif x1 then (g7.bind fun r0 => (ret (r0))) else ((s1 x0 x2 x3 x4 x5 x6 x7).bind ret))
def transomlaw09_SchemaBack.s1c {β : Type} (g6 : G_transomlaw09_Few) (g7 : G_transomlaw09_awake) (g14 : G_schema_Put) (g15 : G_schema_Read) (g16 : G_transomref09_Same) (g17 : G_schema_Same) (s0 : S_transomlaw09_SchemaBack_0) (s1 : S_transomlaw09_SchemaBack_1) (s2 : S_transomlaw09_SchemaBack_2) (s3 : S_transomlaw09_SchemaBack_3) (s4 : S_transomlaw09_SchemaBack_4) (x0 : ByteArray) (x1 : ByteArray) (x2 : Int) (x3 : List D_api_Col) (x4 : ByteArray) (x5 : Int) (x6 : List D_api_Col) (ret : Bool → Option β) : Option β := ((g14 x1 x2 x3).bind fun r0 => (bif (r0.2 != (0 : Int)) then (bif ((ByteArray.toList r0.1) == (ByteArray.toList (ByteArray.mk (List.toArray [])))) then (g7.bind fun r1 => ((s2 r1).bind ret)) else ((s2 false).bind ret)) else (bif ((decide ((ByteArray.size r0.1) ≤ (4611686018427387903 : Nat))) && (decide ((ByteArray.size x0) ≤ (4611686018427387903 : Nat)))) then ((g15 (r0.1 ++ x0)).bind fun r2 => ((g16 x1 x2 x3 r2.1 r2.2.1 r2.2.2.1).bind fun r3 => (bif (!r3) then ((s3 r0.1 true x1 x2 x3 x4 x5 x6).bind ret) else (bif (!((ByteArray.toList r2.2.2.2.1) == (ByteArray.toList x0))) then ((s3 r0.1 true x1 x2 x3 x4 x5 x6).bind ret) else ((s3 r0.1 (r2.2.2.2.2 != (0 : Int)) x1 x2 x3 x4 x5 x6).bind ret))))) else none)))
def transomlaw09_SchemaBack.s2c {β : Type} (g6 : G_transomlaw09_Few) (g7 : G_transomlaw09_awake) (g14 : G_schema_Put) (g15 : G_schema_Read) (g16 : G_transomref09_Same) (g17 : G_schema_Same) (s0 : S_transomlaw09_SchemaBack_0) (s1 : S_transomlaw09_SchemaBack_1) (s2 : S_transomlaw09_SchemaBack_2) (s3 : S_transomlaw09_SchemaBack_3) (s4 : S_transomlaw09_SchemaBack_4) (x0 : Bool) (ret : Bool → Option β) : Option β := (ret (x0))
def transomlaw09_SchemaBack.s3c {β : Type} (g6 : G_transomlaw09_Few) (g7 : G_transomlaw09_awake) (g14 : G_schema_Put) (g15 : G_schema_Read) (g16 : G_transomref09_Same) (g17 : G_schema_Same) (s0 : S_transomlaw09_SchemaBack_0) (s1 : S_transomlaw09_SchemaBack_1) (s2 : S_transomlaw09_SchemaBack_2) (s3 : S_transomlaw09_SchemaBack_3) (s4 : S_transomlaw09_SchemaBack_4) (x0 : ByteArray) (x1 : Bool) (x2 : ByteArray) (x3 : Int) (x4 : List D_api_Col) (x5 : ByteArray) (x6 : Int) (x7 : List D_api_Col) (ret : Bool → Option β) : Option β := (bif x1 then (ret (false)) else ((s4 x0 x2 x3 x4 x5 x6 x7).bind ret))
def transomlaw09_SchemaBack.s4c {β : Type} (g6 : G_transomlaw09_Few) (g7 : G_transomlaw09_awake) (g14 : G_schema_Put) (g15 : G_schema_Read) (g16 : G_transomref09_Same) (g17 : G_schema_Same) (s0 : S_transomlaw09_SchemaBack_0) (s1 : S_transomlaw09_SchemaBack_1) (s2 : S_transomlaw09_SchemaBack_2) (s3 : S_transomlaw09_SchemaBack_3) (s4 : S_transomlaw09_SchemaBack_4) (x0 : ByteArray) (x1 : ByteArray) (x2 : Int) (x3 : List D_api_Col) (x4 : ByteArray) (x5 : Int) (x6 : List D_api_Col) (ret : Bool → Option β) : Option β := ((g14 x4 x5 x6).bind fun r0 => (bif (r0.2 != (0 : Int)) then (g7.bind fun r1 => (ret (r1))) else ((g17 x1 x2 x3 x4 x5 x6).bind fun r2 => (bif (((ByteArray.toList r0.1) == (ByteArray.toList x0)) == r2) then (g7.bind fun r3 => (ret (r3))) else (ret (false))))))
theorem transomlaw09_SchemaBack.c_bind {β : Type} {g6 : G_transomlaw09_Few} {g7 : G_transomlaw09_awake} {g14 : G_schema_Put} {g15 : G_schema_Read} {g16 : G_transomref09_Same} {g17 : G_schema_Same} {s0 : S_transomlaw09_SchemaBack_0} {s1 : S_transomlaw09_SchemaBack_1} {s2 : S_transomlaw09_SchemaBack_2} {s3 : S_transomlaw09_SchemaBack_3} {s4 : S_transomlaw09_SchemaBack_4} {a0 : ByteArray} {a1 : Int} {a2 : List D_api_Col} {a3 : ByteArray} {a4 : Int} {a5 : List D_api_Col} {a6 : ByteArray} {ret : Bool → Option β} : transomlaw09_SchemaBack.c g6 g7 g14 g15 g16 g17 s0 s1 s2 s3 s4 a0 a1 a2 a3 a4 a5 a6 ret = (transomlaw09_SchemaBack.c g6 g7 g14 g15 g16 g17 s0 s1 s2 s3 s4 a0 a1 a2 a3 a4 a5 a6 some).bind ret := by
  simp only [transomlaw09_SchemaBack.c, bif_bind, sum_bind, Option.bind_assoc, Option.bind_some, Option.bind_none, Option.bind_fun_some]
theorem transomlaw09_SchemaBack.s0c_bind {β : Type} {g6 : G_transomlaw09_Few} {g7 : G_transomlaw09_awake} {g14 : G_schema_Put} {g15 : G_schema_Read} {g16 : G_transomref09_Same} {g17 : G_schema_Same} {s0 : S_transomlaw09_SchemaBack_0} {s1 : S_transomlaw09_SchemaBack_1} {s2 : S_transomlaw09_SchemaBack_2} {s3 : S_transomlaw09_SchemaBack_3} {s4 : S_transomlaw09_SchemaBack_4} {x0 : ByteArray} {x1 : Bool} {x2 : ByteArray} {x3 : Int} {x4 : List D_api_Col} {x5 : ByteArray} {x6 : Int} {x7 : List D_api_Col} {ret : Bool → Option β} : transomlaw09_SchemaBack.s0c g6 g7 g14 g15 g16 g17 s0 s1 s2 s3 s4 x0 x1 x2 x3 x4 x5 x6 x7 ret = (transomlaw09_SchemaBack.s0c g6 g7 g14 g15 g16 g17 s0 s1 s2 s3 s4 x0 x1 x2 x3 x4 x5 x6 x7 some).bind ret := by
  simp only [transomlaw09_SchemaBack.s0c, bif_bind, sum_bind, Option.bind_assoc, Option.bind_some, Option.bind_none, Option.bind_fun_some]
theorem transomlaw09_SchemaBack.s1c_bind {β : Type} {g6 : G_transomlaw09_Few} {g7 : G_transomlaw09_awake} {g14 : G_schema_Put} {g15 : G_schema_Read} {g16 : G_transomref09_Same} {g17 : G_schema_Same} {s0 : S_transomlaw09_SchemaBack_0} {s1 : S_transomlaw09_SchemaBack_1} {s2 : S_transomlaw09_SchemaBack_2} {s3 : S_transomlaw09_SchemaBack_3} {s4 : S_transomlaw09_SchemaBack_4} {x0 : ByteArray} {x1 : ByteArray} {x2 : Int} {x3 : List D_api_Col} {x4 : ByteArray} {x5 : Int} {x6 : List D_api_Col} {ret : Bool → Option β} : transomlaw09_SchemaBack.s1c g6 g7 g14 g15 g16 g17 s0 s1 s2 s3 s4 x0 x1 x2 x3 x4 x5 x6 ret = (transomlaw09_SchemaBack.s1c g6 g7 g14 g15 g16 g17 s0 s1 s2 s3 s4 x0 x1 x2 x3 x4 x5 x6 some).bind ret := by
  simp only [transomlaw09_SchemaBack.s1c, bif_bind, sum_bind, Option.bind_assoc, Option.bind_some, Option.bind_none, Option.bind_fun_some]
theorem transomlaw09_SchemaBack.s2c_bind {β : Type} {g6 : G_transomlaw09_Few} {g7 : G_transomlaw09_awake} {g14 : G_schema_Put} {g15 : G_schema_Read} {g16 : G_transomref09_Same} {g17 : G_schema_Same} {s0 : S_transomlaw09_SchemaBack_0} {s1 : S_transomlaw09_SchemaBack_1} {s2 : S_transomlaw09_SchemaBack_2} {s3 : S_transomlaw09_SchemaBack_3} {s4 : S_transomlaw09_SchemaBack_4} {x0 : Bool} {ret : Bool → Option β} : transomlaw09_SchemaBack.s2c g6 g7 g14 g15 g16 g17 s0 s1 s2 s3 s4 x0 ret = (transomlaw09_SchemaBack.s2c g6 g7 g14 g15 g16 g17 s0 s1 s2 s3 s4 x0 some).bind ret := by
  simp only [transomlaw09_SchemaBack.s2c, bif_bind, sum_bind, Option.bind_assoc, Option.bind_some, Option.bind_none, Option.bind_fun_some]
theorem transomlaw09_SchemaBack.s3c_bind {β : Type} {g6 : G_transomlaw09_Few} {g7 : G_transomlaw09_awake} {g14 : G_schema_Put} {g15 : G_schema_Read} {g16 : G_transomref09_Same} {g17 : G_schema_Same} {s0 : S_transomlaw09_SchemaBack_0} {s1 : S_transomlaw09_SchemaBack_1} {s2 : S_transomlaw09_SchemaBack_2} {s3 : S_transomlaw09_SchemaBack_3} {s4 : S_transomlaw09_SchemaBack_4} {x0 : ByteArray} {x1 : Bool} {x2 : ByteArray} {x3 : Int} {x4 : List D_api_Col} {x5 : ByteArray} {x6 : Int} {x7 : List D_api_Col} {ret : Bool → Option β} : transomlaw09_SchemaBack.s3c g6 g7 g14 g15 g16 g17 s0 s1 s2 s3 s4 x0 x1 x2 x3 x4 x5 x6 x7 ret = (transomlaw09_SchemaBack.s3c g6 g7 g14 g15 g16 g17 s0 s1 s2 s3 s4 x0 x1 x2 x3 x4 x5 x6 x7 some).bind ret := by
  simp only [transomlaw09_SchemaBack.s3c, bif_bind, sum_bind, Option.bind_assoc, Option.bind_some, Option.bind_none, Option.bind_fun_some]
theorem transomlaw09_SchemaBack.s4c_bind {β : Type} {g6 : G_transomlaw09_Few} {g7 : G_transomlaw09_awake} {g14 : G_schema_Put} {g15 : G_schema_Read} {g16 : G_transomref09_Same} {g17 : G_schema_Same} {s0 : S_transomlaw09_SchemaBack_0} {s1 : S_transomlaw09_SchemaBack_1} {s2 : S_transomlaw09_SchemaBack_2} {s3 : S_transomlaw09_SchemaBack_3} {s4 : S_transomlaw09_SchemaBack_4} {x0 : ByteArray} {x1 : ByteArray} {x2 : Int} {x3 : List D_api_Col} {x4 : ByteArray} {x5 : Int} {x6 : List D_api_Col} {ret : Bool → Option β} : transomlaw09_SchemaBack.s4c g6 g7 g14 g15 g16 g17 s0 s1 s2 s3 s4 x0 x1 x2 x3 x4 x5 x6 ret = (transomlaw09_SchemaBack.s4c g6 g7 g14 g15 g16 g17 s0 s1 s2 s3 s4 x0 x1 x2 x3 x4 x5 x6 some).bind ret := by
  simp only [transomlaw09_SchemaBack.s4c, bif_bind, sum_bind, Option.bind_assoc, Option.bind_some, Option.bind_none, Option.bind_fun_some]
theorem transomlaw09_SchemaBack.ev {g6 : G_transomlaw09_Few} {g7 : G_transomlaw09_awake} {g14 : G_schema_Put} {g15 : G_schema_Read} {g16 : G_transomref09_Same} {g17 : G_schema_Same} {s0 : S_transomlaw09_SchemaBack_0} {s1 : S_transomlaw09_SchemaBack_1} {s2 : S_transomlaw09_SchemaBack_2} {s3 : S_transomlaw09_SchemaBack_3} {s4 : S_transomlaw09_SchemaBack_4} {a0 : ByteArray} {a1 : Int} {a2 : List D_api_Col} {a3 : ByteArray} {a4 : Int} {a5 : List D_api_Col} {a6 : ByteArray} : evAt (env_transomlaw09_SchemaBack g6 g7 g14 g15 g16 g17 s0 s1 s2 s3 s4) [] [0, 1, 2] [.v (.agg [(.d .str a0), (.d (.int .i64) a1), (.d (.sl T_api_Col) a2)]), .v (.agg [(.d .str a3), (.d (.int .i64) a4), (.d (.sl T_api_Col) a5)]), .v (.one (.d .str a6))] [] some = transomlaw09_SchemaBack.c g6 g7 g14 g15 g16 g17 s0 s1 s2 s3 s4 a0 a1 a2 a3 a4 a5 a6 (fun r => some ⟨.v (.one (.d .bool r)), []⟩) := by
  kernel_rfl
theorem transomlaw09_SchemaBack.s0_ev {g6 : G_transomlaw09_Few} {g7 : G_transomlaw09_awake} {g14 : G_schema_Put} {g15 : G_schema_Read} {g16 : G_transomref09_Same} {g17 : G_schema_Same} {s0 : S_transomlaw09_SchemaBack_0} {s1 : S_transomlaw09_SchemaBack_1} {s2 : S_transomlaw09_SchemaBack_2} {s3 : S_transomlaw09_SchemaBack_3} {s4 : S_transomlaw09_SchemaBack_4} {x0 : ByteArray} {x1 : Bool} {x2 : ByteArray} {x3 : Int} {x4 : List D_api_Col} {x5 : ByteArray} {x6 : Int} {x7 : List D_api_Col} : evAt (env_transomlaw09_SchemaBack g6 g7 g14 g15 g16 g17 s0 s1 s2 s3 s4) [1, 0, 1] [2, 3, 4, 26] [.v (.one (.d .str x0)), .v (.one (.ptr 0 0)), .v (.one (.ptr 1 0)), .v (.one (.d .bool x1))] [some (.box [(.d .str x2), (.d (.int .i64) x3), (.d (.sl T_api_Col) x4)]), some (.box [(.d .str x5), (.d (.int .i64) x6), (.d (.sl T_api_Col) x7)])] some = transomlaw09_SchemaBack.s0c g6 g7 g14 g15 g16 g17 s0 s1 s2 s3 s4 x0 x1 x2 x3 x4 x5 x6 x7 (fun r => some ⟨.v (.one (.d .bool r)), []⟩) := by
  kernel_rfl
theorem transomlaw09_SchemaBack.s1_ev {g6 : G_transomlaw09_Few} {g7 : G_transomlaw09_awake} {g14 : G_schema_Put} {g15 : G_schema_Read} {g16 : G_transomref09_Same} {g17 : G_schema_Same} {s0 : S_transomlaw09_SchemaBack_0} {s1 : S_transomlaw09_SchemaBack_1} {s2 : S_transomlaw09_SchemaBack_2} {s3 : S_transomlaw09_SchemaBack_3} {s4 : S_transomlaw09_SchemaBack_4} {x0 : ByteArray} {x1 : ByteArray} {x2 : Int} {x3 : List D_api_Col} {x4 : ByteArray} {x5 : Int} {x6 : List D_api_Col} : evAt (env_transomlaw09_SchemaBack g6 g7 g14 g15 g16 g17 s0 s1 s2 s3 s4) [1, 1] [2, 3, 4] [.v (.one (.d .str x0)), .v (.one (.ptr 0 0)), .v (.one (.ptr 1 0))] [some (.box [(.d .str x1), (.d (.int .i64) x2), (.d (.sl T_api_Col) x3)]), some (.box [(.d .str x4), (.d (.int .i64) x5), (.d (.sl T_api_Col) x6)])] some = transomlaw09_SchemaBack.s1c g6 g7 g14 g15 g16 g17 s0 s1 s2 s3 s4 x0 x1 x2 x3 x4 x5 x6 (fun r => some ⟨.v (.one (.d .bool r)), []⟩) := by
  kernel_rfl
theorem transomlaw09_SchemaBack.s2_ev {g6 : G_transomlaw09_Few} {g7 : G_transomlaw09_awake} {g14 : G_schema_Put} {g15 : G_schema_Read} {g16 : G_transomref09_Same} {g17 : G_schema_Same} {s0 : S_transomlaw09_SchemaBack_0} {s1 : S_transomlaw09_SchemaBack_1} {s2 : S_transomlaw09_SchemaBack_2} {s3 : S_transomlaw09_SchemaBack_3} {s4 : S_transomlaw09_SchemaBack_4} {x0 : Bool} : evAt (env_transomlaw09_SchemaBack g6 g7 g14 g15 g16 g17 s0 s1 s2 s3 s4) [1, 2, 1, 0, 1, 1, 1] [6] [.v (.one (.d .bool x0))] [] some = transomlaw09_SchemaBack.s2c g6 g7 g14 g15 g16 g17 s0 s1 s2 s3 s4 x0 (fun r => some ⟨.v (.one (.d .bool r)), []⟩) := by
  kernel_rfl
theorem transomlaw09_SchemaBack.s3_ev {g6 : G_transomlaw09_Few} {g7 : G_transomlaw09_awake} {g14 : G_schema_Put} {g15 : G_schema_Read} {g16 : G_transomref09_Same} {g17 : G_schema_Same} {s0 : S_transomlaw09_SchemaBack_0} {s1 : S_transomlaw09_SchemaBack_1} {s2 : S_transomlaw09_SchemaBack_2} {s3 : S_transomlaw09_SchemaBack_3} {s4 : S_transomlaw09_SchemaBack_4} {x0 : ByteArray} {x1 : Bool} {x2 : ByteArray} {x3 : Int} {x4 : List D_api_Col} {x5 : ByteArray} {x6 : Int} {x7 : List D_api_Col} : evAt (env_transomlaw09_SchemaBack g6 g7 g14 g15 g16 g17 s0 s1 s2 s3 s4) [1, 0, 1, 1, 1, 1, 1] [3, 4, 7, 60] [.v (.one (.ptr 0 0)), .v (.one (.ptr 1 0)), .v (.one (.d .str x0)), .v (.one (.d .bool x1))] [some (.box [(.d .str x2), (.d (.int .i64) x3), (.d (.sl T_api_Col) x4)]), some (.box [(.d .str x5), (.d (.int .i64) x6), (.d (.sl T_api_Col) x7)])] some = transomlaw09_SchemaBack.s3c g6 g7 g14 g15 g16 g17 s0 s1 s2 s3 s4 x0 x1 x2 x3 x4 x5 x6 x7 (fun r => some ⟨.v (.one (.d .bool r)), []⟩) := by
  kernel_rfl
theorem transomlaw09_SchemaBack.s4_ev {g6 : G_transomlaw09_Few} {g7 : G_transomlaw09_awake} {g14 : G_schema_Put} {g15 : G_schema_Read} {g16 : G_transomref09_Same} {g17 : G_schema_Same} {s0 : S_transomlaw09_SchemaBack_0} {s1 : S_transomlaw09_SchemaBack_1} {s2 : S_transomlaw09_SchemaBack_2} {s3 : S_transomlaw09_SchemaBack_3} {s4 : S_transomlaw09_SchemaBack_4} {x0 : ByteArray} {x1 : ByteArray} {x2 : Int} {x3 : List D_api_Col} {x4 : ByteArray} {x5 : Int} {x6 : List D_api_Col} : evAt (env_transomlaw09_SchemaBack g6 g7 g14 g15 g16 g17 s0 s1 s2 s3 s4) [1, 1, 1, 1, 1, 1] [3, 4, 7] [.v (.one (.ptr 0 0)), .v (.one (.ptr 1 0)), .v (.one (.d .str x0))] [some (.box [(.d .str x1), (.d (.int .i64) x2), (.d (.sl T_api_Col) x3)]), some (.box [(.d .str x4), (.d (.int .i64) x5), (.d (.sl T_api_Col) x6)])] some = transomlaw09_SchemaBack.s4c g6 g7 g14 g15 g16 g17 s0 s1 s2 s3 s4 x0 x1 x2 x3 x4 x5 x6 (fun r => some ⟨.v (.one (.d .bool r)), []⟩) := by
  kernel_rfl
mutual
def transomlaw09_SchemaBack.s0 : Nat → ByteArray → Bool → ByteArray → Int → (List D_api_Col) → ByteArray → Int → (List D_api_Col) → Option Bool
  | 0, _, _, _, _, _, _, _, _ => none
  | k + 1, x0, x1, x2, x3, x4, x5, x6, x7 => transomlaw09_SchemaBack.s0c (transomlaw09_Few.f k) (transomlaw09_awake.f k) (schema_Put.f k) (schema_Read.f k) (transomref09_Same.f k) (schema_Same.f k) (transomlaw09_SchemaBack.s0 k) (transomlaw09_SchemaBack.s1 k) (transomlaw09_SchemaBack.s2 k) (transomlaw09_SchemaBack.s3 k) (transomlaw09_SchemaBack.s4 k) x0 x1 x2 x3 x4 x5 x6 x7 some
def transomlaw09_SchemaBack.s1 : Nat → ByteArray → ByteArray → Int → (List D_api_Col) → ByteArray → Int → (List D_api_Col) → Option Bool
  | 0, _, _, _, _, _, _, _ => none
  | k + 1, x0, x1, x2, x3, x4, x5, x6 => transomlaw09_SchemaBack.s1c (transomlaw09_Few.f k) (transomlaw09_awake.f k) (schema_Put.f k) (schema_Read.f k) (transomref09_Same.f k) (schema_Same.f k) (transomlaw09_SchemaBack.s0 k) (transomlaw09_SchemaBack.s1 k) (transomlaw09_SchemaBack.s2 k) (transomlaw09_SchemaBack.s3 k) (transomlaw09_SchemaBack.s4 k) x0 x1 x2 x3 x4 x5 x6 some
def transomlaw09_SchemaBack.s2 : Nat → Bool → Option Bool
  | 0, _ => none
  | k + 1, x0 => transomlaw09_SchemaBack.s2c (transomlaw09_Few.f k) (transomlaw09_awake.f k) (schema_Put.f k) (schema_Read.f k) (transomref09_Same.f k) (schema_Same.f k) (transomlaw09_SchemaBack.s0 k) (transomlaw09_SchemaBack.s1 k) (transomlaw09_SchemaBack.s2 k) (transomlaw09_SchemaBack.s3 k) (transomlaw09_SchemaBack.s4 k) x0 some
def transomlaw09_SchemaBack.s3 : Nat → ByteArray → Bool → ByteArray → Int → (List D_api_Col) → ByteArray → Int → (List D_api_Col) → Option Bool
  | 0, _, _, _, _, _, _, _, _ => none
  | k + 1, x0, x1, x2, x3, x4, x5, x6, x7 => transomlaw09_SchemaBack.s3c (transomlaw09_Few.f k) (transomlaw09_awake.f k) (schema_Put.f k) (schema_Read.f k) (transomref09_Same.f k) (schema_Same.f k) (transomlaw09_SchemaBack.s0 k) (transomlaw09_SchemaBack.s1 k) (transomlaw09_SchemaBack.s2 k) (transomlaw09_SchemaBack.s3 k) (transomlaw09_SchemaBack.s4 k) x0 x1 x2 x3 x4 x5 x6 x7 some
def transomlaw09_SchemaBack.s4 : Nat → ByteArray → ByteArray → Int → (List D_api_Col) → ByteArray → Int → (List D_api_Col) → Option Bool
  | 0, _, _, _, _, _, _, _ => none
  | k + 1, x0, x1, x2, x3, x4, x5, x6 => transomlaw09_SchemaBack.s4c (transomlaw09_Few.f k) (transomlaw09_awake.f k) (schema_Put.f k) (schema_Read.f k) (transomref09_Same.f k) (schema_Same.f k) (transomlaw09_SchemaBack.s0 k) (transomlaw09_SchemaBack.s1 k) (transomlaw09_SchemaBack.s2 k) (transomlaw09_SchemaBack.s3 k) (transomlaw09_SchemaBack.s4 k) x0 x1 x2 x3 x4 x5 x6 some
end
def transomlaw09_SchemaBack.f (k : Nat) (a0 : ByteArray) (a1 : Int) (a2 : List D_api_Col) (a3 : ByteArray) (a4 : Int) (a5 : List D_api_Col) (a6 : ByteArray) : Option Bool := transomlaw09_SchemaBack.c (transomlaw09_Few.f k) (transomlaw09_awake.f k) (schema_Put.f k) (schema_Read.f k) (transomref09_Same.f k) (schema_Same.f k) (transomlaw09_SchemaBack.s0 k) (transomlaw09_SchemaBack.s1 k) (transomlaw09_SchemaBack.s2 k) (transomlaw09_SchemaBack.s3 k) (transomlaw09_SchemaBack.s4 k) a0 a1 a2 a3 a4 a5 a6 some
theorem transomlaw09_SchemaBack.is {g6 : G_transomlaw09_Few} {g7 : G_transomlaw09_awake} {g14 : G_schema_Put} {g15 : G_schema_Read} {g16 : G_transomref09_Same} {g17 : G_schema_Same} {s0 : S_transomlaw09_SchemaBack_0} {s1 : S_transomlaw09_SchemaBack_1} {s2 : S_transomlaw09_SchemaBack_2} {s3 : S_transomlaw09_SchemaBack_3} {s4 : S_transomlaw09_SchemaBack_4} : FnIs (env_transomlaw09_SchemaBack g6 g7 g14 g15 g16 g17 s0 s1 s2 s3 s4) 4 Go.Proofs.Tryd.f4 := ⟨Go.Proofs.Tryd.func4, rfl, rfl, rfl, by decide⟩
theorem transomlaw09_SchemaBack.envok {g6 : G_transomlaw09_Few} {g7 : G_transomlaw09_awake} {g14 : G_schema_Put} {g15 : G_schema_Read} {g16 : G_transomref09_Same} {g17 : G_schema_Same} {s0 : S_transomlaw09_SchemaBack_0} {s1 : S_transomlaw09_SchemaBack_1} {s2 : S_transomlaw09_SchemaBack_2} {s3 : S_transomlaw09_SchemaBack_3} {s4 : S_transomlaw09_SchemaBack_4} (h6 : CtOK Go.Proofs.Tryd.prog 6 (ct_transomlaw09_Few g6)) (h7 : CtOK Go.Proofs.Tryd.prog 7 (ct_transomlaw09_awake g7)) (h14 : CtOK Go.Proofs.Tryd.prog 14 (ct_schema_Put g14)) (h15 : CtOK Go.Proofs.Tryd.prog 15 (ct_schema_Read g15)) (h16 : CtOK Go.Proofs.Tryd.prog 16 (ct_transomref09_Same g16)) (h17 : CtOK Go.Proofs.Tryd.prog 17 (ct_schema_Same g17)) : EnvOK (env_transomlaw09_SchemaBack g6 g7 g14 g15 g16 g17 s0 s1 s2 s3 s4).toEnv := by
  intro f c h
  simp only [env_transomlaw09_SchemaBack] at h
  split at h
  · rename_i e; subst e; cases h; exact h6
  split at h
  · rename_i e; subst e; cases h; exact h7
  split at h
  · rename_i e; subst e; cases h; exact h14
  split at h
  · rename_i e; subst e; cases h; exact h15
  split at h
  · rename_i e; subst e; cases h; exact h16
  split at h
  · rename_i e; subst e; cases h; exact h17
  simp at h
noncomputable abbrev transomlaw09_SchemaBack.E (k : Nat) : FEnv := env_transomlaw09_SchemaBack (transomlaw09_Few.f k) (transomlaw09_awake.f k) (schema_Put.f k) (schema_Read.f k) (transomref09_Same.f k) (schema_Same.f k) (transomlaw09_SchemaBack.s0 k) (transomlaw09_SchemaBack.s1 k) (transomlaw09_SchemaBack.s2 k) (transomlaw09_SchemaBack.s3 k) (transomlaw09_SchemaBack.s4 k)
theorem transomlaw09_SchemaBack.hE (k : Nat) : EnvOK (transomlaw09_SchemaBack.E k).toEnv := transomlaw09_SchemaBack.envok (transomlaw09_Few.ok k) (transomlaw09_awake.ok k) (schema_Put.ok k) (schema_Read.ok k) (transomref09_Same.ok k) (schema_Same.ok k)
theorem transomlaw09_SchemaBack.segs_ok : ∀ k, ∀ s ∈ (transomlaw09_SchemaBack.E k).segs, SegOK (transomlaw09_SchemaBack.E k) Go.Proofs.Tryd.f4 s
  | 0 => by
    intro s hs
    simp only [transomlaw09_SchemaBack.E, env_transomlaw09_SchemaBack, List.mem_cons, List.not_mem_nil, or_false] at hs
    rcases hs with rfl | rfl | rfl | rfl | rfl
    · intro tvs blks res h; exfalso; simp only [seg_transomlaw09_SchemaBack_0] at h; split at h <;> simp [transomlaw09_SchemaBack.s0] at h
    · intro tvs blks res h; exfalso; simp only [seg_transomlaw09_SchemaBack_1] at h; split at h <;> simp [transomlaw09_SchemaBack.s1] at h
    · intro tvs blks res h; exfalso; simp only [seg_transomlaw09_SchemaBack_2] at h; split at h <;> simp [transomlaw09_SchemaBack.s2] at h
    · intro tvs blks res h; exfalso; simp only [seg_transomlaw09_SchemaBack_3] at h; split at h <;> simp [transomlaw09_SchemaBack.s3] at h
    · intro tvs blks res h; exfalso; simp only [seg_transomlaw09_SchemaBack_4] at h; split at h <;> simp [transomlaw09_SchemaBack.s4] at h
  | k + 1 => by
    intro s hs
    simp only [transomlaw09_SchemaBack.E, env_transomlaw09_SchemaBack, List.mem_cons, List.not_mem_nil, or_false] at hs
    rcases hs with rfl | rfl | rfl | rfl | rfl
    · refine seg_of_ev (E := transomlaw09_SchemaBack.E k) (transomlaw09_SchemaBack.hE k) ⟨transomlaw09_SchemaBack.is.rvs⟩ (transomlaw09_SchemaBack.segs_ok k) ?_
      intro tvs blks res h
      simp only [seg_transomlaw09_SchemaBack_0] at h
      split at h
      · exact (transomlaw09_SchemaBack.s0_ev.trans transomlaw09_SchemaBack.s0c_bind).trans h
      · simp at h
    · refine seg_of_ev (E := transomlaw09_SchemaBack.E k) (transomlaw09_SchemaBack.hE k) ⟨transomlaw09_SchemaBack.is.rvs⟩ (transomlaw09_SchemaBack.segs_ok k) ?_
      intro tvs blks res h
      simp only [seg_transomlaw09_SchemaBack_1] at h
      split at h
      · exact (transomlaw09_SchemaBack.s1_ev.trans transomlaw09_SchemaBack.s1c_bind).trans h
      · simp at h
    · refine seg_of_ev (E := transomlaw09_SchemaBack.E k) (transomlaw09_SchemaBack.hE k) ⟨transomlaw09_SchemaBack.is.rvs⟩ (transomlaw09_SchemaBack.segs_ok k) ?_
      intro tvs blks res h
      simp only [seg_transomlaw09_SchemaBack_2] at h
      split at h
      · exact (transomlaw09_SchemaBack.s2_ev.trans transomlaw09_SchemaBack.s2c_bind).trans h
      · simp at h
    · refine seg_of_ev (E := transomlaw09_SchemaBack.E k) (transomlaw09_SchemaBack.hE k) ⟨transomlaw09_SchemaBack.is.rvs⟩ (transomlaw09_SchemaBack.segs_ok k) ?_
      intro tvs blks res h
      simp only [seg_transomlaw09_SchemaBack_3] at h
      split at h
      · exact (transomlaw09_SchemaBack.s3_ev.trans transomlaw09_SchemaBack.s3c_bind).trans h
      · simp at h
    · refine seg_of_ev (E := transomlaw09_SchemaBack.E k) (transomlaw09_SchemaBack.hE k) ⟨transomlaw09_SchemaBack.is.rvs⟩ (transomlaw09_SchemaBack.segs_ok k) ?_
      intro tvs blks res h
      simp only [seg_transomlaw09_SchemaBack_4] at h
      split at h
      · exact (transomlaw09_SchemaBack.s4_ev.trans transomlaw09_SchemaBack.s4c_bind).trans h
      · simp at h
theorem transomlaw09_SchemaBack.ok (k : Nat) : CtOK Go.Proofs.Tryd.prog 4 (ct_transomlaw09_SchemaBack (transomlaw09_SchemaBack.f k)) := by
  refine ct_of_ev (E := transomlaw09_SchemaBack.E k) transomlaw09_SchemaBack.is (transomlaw09_SchemaBack.hE k) (transomlaw09_SchemaBack.segs_ok k) rfl ?_
  intro tvs blks res h
  simp only [ct_transomlaw09_SchemaBack] at h
  split at h
  · exact (transomlaw09_SchemaBack.ev.trans transomlaw09_SchemaBack.c_bind).trans h
  · simp at h
end Go.Proofs.YtddlebbjaadbeaaDoor.Aev
