/- By a program of this session (AEV): functions of the program as plain functions, and that the machine does what they say. -/
import Derived.Test.YtddlebbjaadbeaaDoorTys
import Derived.Test.YtddlebbjaadbeaaDoorProg
import Derived.Laws.Externs
import Derived.Lib.Bytealg
import Derived.Test.YtddlebbjaadbeaaDoorF0
import Derived.Test.YtddlebbjaadbeaaDoorF10
import Derived.Test.YtddlebbjaadbeaaDoorF11
import Derived.Test.YtddlebbjaadbeaaDoorF19
namespace Go.Proofs.YtddlebbjaadbeaaDoor.Aev
set_option linter.unusedVariables false
set_option linter.unusedSimpArgs false
set_option maxRecDepth 100000
set_option maxHeartbeats 4000000
open Go
/-! ### transomlaw09_SchemaKeys: function 5 -/
abbrev G_transomlaw09_SchemaKeys : Type := ByteArray → Int → (List D_api_Col) → (List D_api_Value) → Option Bool
def ct_transomlaw09_SchemaKeys (g : G_transomlaw09_SchemaKeys) : Ct where
  nin := 0
  mv := []
  F := fun tvs blks {β} K => match tvs, blks with
    | [.v (.agg [(.d .str a0), (.d (.int .i64) a1), (.d (.sl (.pair .str (.pair (.int .i64) (.pair .bool (.pair (.pair (.int .i64) (.pair (.int .i64) (.pair (.int .u64) (.pair .str .unit)))) .unit))))) a2)]), .v (.one (.d (.sl (.pair (.int .i64) (.pair (.int .i64) (.pair (.int .u64) (.pair .str .unit))))) a3))], [] => (g a0 a1 a2 a3).bind fun r => K ⟨.v (.one (.d .bool r)), []⟩
    | _, _ => none
  legit := fun tvs blks K r h => by
    split at h
    · obtain ⟨x, hx, hk⟩ := Option.bind_eq_some_iff.1 h
      refine ⟨_, ?_, hk⟩
      simp only [hx, Option.bind_some]
    · simp at h
abbrev S_transomlaw09_SchemaKeys_0 : Type := (List D_api_Value) → Bool → ByteArray → Int → (List D_api_Col) → Option Bool
abbrev S_transomlaw09_SchemaKeys_1 : Type := (List D_api_Value) → ByteArray → Int → (List D_api_Col) → Option Bool
abbrev S_transomlaw09_SchemaKeys_2 : Type := (List D_api_Value) → ByteArray → Int → Bool → ByteArray → Int → (List D_api_Col) → Option Bool
abbrev S_transomlaw09_SchemaKeys_3 : Type := Bool → Option Bool
abbrev S_transomlaw09_SchemaKeys_4 : Type := (List D_api_Value) → ByteArray → ByteArray → Int → (List D_api_Col) → Option Bool
abbrev S_transomlaw09_SchemaKeys_5 : Type := (List D_api_Value) → ByteArray → ByteArray → Int → Int → ByteArray → Int → (List D_api_Col) → Option Bool
def seg_transomlaw09_SchemaKeys_0 (g : S_transomlaw09_SchemaKeys_0) : Seg where
  path := [1, 0, 1]
  prep := []
  keep := [1, 2, 17]
  F := fun tvs blks {β} K => match tvs, blks with
    | [.v (.one (.d (.sl (.pair (.int .i64) (.pair (.int .i64) (.pair (.int .u64) (.pair .str .unit))))) x0)), .v (.one (.ptr 0 0)), .v (.one (.d .bool x1))], [some (.box [(.d .str x2), (.d (.int .i64) x3), (.d (.sl (.pair .str (.pair (.int .i64) (.pair .bool (.pair (.pair (.int .i64) (.pair (.int .i64) (.pair (.int .u64) (.pair .str .unit)))) .unit))))) x4)])] => (g x0 x1 x2 x3 x4).bind fun r => K ⟨.v (.one (.d .bool r)), []⟩
    | _, _ => none
  legit := fun tvs blks K r h => by
    split at h
    · obtain ⟨x, hx, hk⟩ := Option.bind_eq_some_iff.1 h
      refine ⟨_, ?_, hk⟩
      simp only [hx, Option.bind_some]
    · simp at h
def seg_transomlaw09_SchemaKeys_1 (g : S_transomlaw09_SchemaKeys_1) : Seg where
  path := [1, 1]
  prep := []
  keep := [1, 2]
  F := fun tvs blks {β} K => match tvs, blks with
    | [.v (.one (.d (.sl (.pair (.int .i64) (.pair (.int .i64) (.pair (.int .u64) (.pair .str .unit))))) x0)), .v (.one (.ptr 0 0))], [some (.box [(.d .str x1), (.d (.int .i64) x2), (.d (.sl (.pair .str (.pair (.int .i64) (.pair .bool (.pair (.pair (.int .i64) (.pair (.int .i64) (.pair (.int .u64) (.pair .str .unit)))) .unit))))) x3)])] => (g x0 x1 x2 x3).bind fun r => K ⟨.v (.one (.d .bool r)), []⟩
    | _, _ => none
  legit := fun tvs blks K r h => by
    split at h
    · obtain ⟨x, hx, hk⟩ := Option.bind_eq_some_iff.1 h
      refine ⟨_, ?_, hk⟩
      simp only [hx, Option.bind_some]
    · simp at h
def seg_transomlaw09_SchemaKeys_2 (g : S_transomlaw09_SchemaKeys_2) : Seg where
  path := [1, 0, 1, 1, 1]
  prep := []
  keep := [1, 2, 5, 6, 38]
  F := fun tvs blks {β} K => match tvs, blks with
    | [.v (.one (.d (.sl (.pair (.int .i64) (.pair (.int .i64) (.pair (.int .u64) (.pair .str .unit))))) x0)), .v (.one (.ptr 0 0)), .v (.one (.d .str x1)), .v (.one (.d (.int .i64) x2)), .v (.one (.d .bool x3))], [some (.box [(.d .str x4), (.d (.int .i64) x5), (.d (.sl (.pair .str (.pair (.int .i64) (.pair .bool (.pair (.pair (.int .i64) (.pair (.int .i64) (.pair (.int .u64) (.pair .str .unit)))) .unit))))) x6)])] => (g x0 x1 x2 x3 x4 x5 x6).bind fun r => K ⟨.v (.one (.d .bool r)), []⟩
    | _, _ => none
  legit := fun tvs blks K r h => by
    split at h
    · obtain ⟨x, hx, hk⟩ := Option.bind_eq_some_iff.1 h
      refine ⟨_, ?_, hk⟩
      simp only [hx, Option.bind_some]
    · simp at h
def seg_transomlaw09_SchemaKeys_3 (g : S_transomlaw09_SchemaKeys_3) : Seg where
  path := [1, 2, 1, 0, 1, 1, 1]
  prep := []
  keep := [4]
  F := fun tvs blks {β} K => match tvs, blks with
    | [.v (.one (.d .bool x0))], [] => (g x0).bind fun r => K ⟨.v (.one (.d .bool r)), []⟩
    | _, _ => none
  legit := fun tvs blks K r h => by
    split at h
    · obtain ⟨x, hx, hk⟩ := Option.bind_eq_some_iff.1 h
      refine ⟨_, ?_, hk⟩
      simp only [hx, Option.bind_some]
    · simp at h
def seg_transomlaw09_SchemaKeys_4 (g : S_transomlaw09_SchemaKeys_4) : Seg where
  path := [1, 1, 1, 1]
  prep := []
  keep := [1, 2, 5]
  F := fun tvs blks {β} K => match tvs, blks with
    | [.v (.one (.d (.sl (.pair (.int .i64) (.pair (.int .i64) (.pair (.int .u64) (.pair .str .unit))))) x0)), .v (.one (.ptr 0 0)), .v (.one (.d .str x1))], [some (.box [(.d .str x2), (.d (.int .i64) x3), (.d (.sl (.pair .str (.pair (.int .i64) (.pair .bool (.pair (.pair (.int .i64) (.pair (.int .i64) (.pair (.int .u64) (.pair .str .unit)))) .unit))))) x4)])] => (g x0 x1 x2 x3 x4).bind fun r => K ⟨.v (.one (.d .bool r)), []⟩
    | _, _ => none
  legit := fun tvs blks K r h => by
    split at h
    · obtain ⟨x, hx, hk⟩ := Option.bind_eq_some_iff.1 h
      refine ⟨_, ?_, hk⟩
      simp only [hx, Option.bind_some]
    · simp at h
def seg_transomlaw09_SchemaKeys_5 (g : S_transomlaw09_SchemaKeys_5) : Seg where
  path := [4, 1, 0, 1, 1, 1, 1, 1]
  prep := []
  keep := [1, 2, 5, 7, 8, 9]
  F := fun tvs blks {β} K => match tvs, blks with
    | [.v (.one (.d (.sl (.pair (.int .i64) (.pair (.int .i64) (.pair (.int .u64) (.pair .str .unit))))) x0)), .v (.one (.ptr 0 0)), .v (.one (.d .str x1)), .v (.one (.d .str x2)), .v (.one (.d (.int .i64) x3)), .v (.one (.d (.int .i64) x4))], [some (.box [(.d .str x5), (.d (.int .i64) x6), (.d (.sl (.pair .str (.pair (.int .i64) (.pair .bool (.pair (.pair (.int .i64) (.pair (.int .i64) (.pair (.int .u64) (.pair .str .unit)))) .unit))))) x7)])] => (g x0 x1 x2 x3 x4 x5 x6 x7).bind fun r => K ⟨.v (.one (.d .bool r)), []⟩
    | _, _ => none
  legit := fun tvs blks K r h => by
    split at h
    · obtain ⟨x, hx, hk⟩ := Option.bind_eq_some_iff.1 h
      refine ⟨_, ?_, hk⟩
      simp only [hx, Option.bind_some]
    · simp at h
noncomputable def env_transomlaw09_SchemaKeys (g6 : G_transomlaw09_Few) (g7 : G_transomlaw09_awake) (g18 : G_transomlaw05_Few) (g19 : G_schema_Key) (g20 : G_keycode_Row) (g21 : G_schema_FitsKey) (s0 : S_transomlaw09_SchemaKeys_0) (s1 : S_transomlaw09_SchemaKeys_1) (s2 : S_transomlaw09_SchemaKeys_2) (s3 : S_transomlaw09_SchemaKeys_3) (s4 : S_transomlaw09_SchemaKeys_4) (s5 : S_transomlaw09_SchemaKeys_5) : FEnv := { P := Go.Proofs.Tryd.prog, ct := fun m => if m = 6 then some (ct_transomlaw09_Few g6) else if m = 7 then some (ct_transomlaw09_awake g7) else if m = 18 then some (ct_transomlaw05_Few g18) else if m = 19 then some (ct_schema_Key g19) else if m = 20 then some (ct_keycode_Row g20) else if m = 21 then some (ct_schema_FitsKey g21) else none, N := 87, body := Go.Proofs.Tryd.f5.body.getD .skip, rvs := [.tmp 4], rts := [4], nin := 0, rmv := [], segs := [seg_transomlaw09_SchemaKeys_0 s0, seg_transomlaw09_SchemaKeys_1 s1, seg_transomlaw09_SchemaKeys_2 s2, seg_transomlaw09_SchemaKeys_3 s3, seg_transomlaw09_SchemaKeys_4 s4, seg_transomlaw09_SchemaKeys_5 s5] }
def transomlaw09_SchemaKeys.c {β : Type} (g6 : G_transomlaw09_Few) (g7 : G_transomlaw09_awake) (g18 : G_transomlaw05_Few) (g19 : G_schema_Key) (g20 : G_keycode_Row) (g21 : G_schema_FitsKey) (s0 : S_transomlaw09_SchemaKeys_0) (s1 : S_transomlaw09_SchemaKeys_1) (s2 : S_transomlaw09_SchemaKeys_2) (s3 : S_transomlaw09_SchemaKeys_3) (s4 : S_transomlaw09_SchemaKeys_4) (s5 : S_transomlaw09_SchemaKeys_5) (a0 : ByteArray) (a1 : Int) (a2 : List D_api_Col) (a3 : List D_api_Value) (ret : Bool → Option β) : Option β := ((g6 a0 a1 a2).bind fun r0 => (bif (r0 == (0 : Int)) then ((s0 a3 true a0 a1 a2).bind ret) else ((g18 a3).bind fun r1 => ((s0 a3 (r1 == (0 : Int)) a0 a1 a2).bind ret))))
def transomlaw09_SchemaKeys.s0c {β : Type} (g6 : G_transomlaw09_Few) (g7 : G_transomlaw09_awake) (g18 : G_transomlaw05_Few) (g19 : G_schema_Key) (g20 : G_keycode_Row) (g21 : G_schema_FitsKey) (s0 : S_transomlaw09_SchemaKeys_0) (s1 : S_transomlaw09_SchemaKeys_1) (s2 : S_transomlaw09_SchemaKeys_2) (s3 : S_transomlaw09_SchemaKeys_3) (s4 : S_transomlaw09_SchemaKeys_4) (s5 : S_transomlaw09_SchemaKeys_5) (x0 : List D_api_Value) (x1 : Bool) (x2 : ByteArray) (x3 : Int) (x4 : List D_api_Col) (ret : Bool → Option β) : Option β := (bif x1 then (g7.bind fun r0 => (ret (r0))) else ((s1 x0 x2 x3 x4).bind ret))
def transomlaw09_SchemaKeys.s1c {β : Type} (g6 : G_transomlaw09_Few) (g7 : G_transomlaw09_awake) (g18 : G_transomlaw05_Few) (g19 : G_schema_Key) (g20 : G_keycode_Row) (g21 : G_schema_FitsKey) (s0 : S_transomlaw09_SchemaKeys_0) (s1 : S_transomlaw09_SchemaKeys_1) (s2 : S_transomlaw09_SchemaKeys_2) (s3 : S_transomlaw09_SchemaKeys_3) (s4 : S_transomlaw09_SchemaKeys_4) (s5 : S_transomlaw09_SchemaKeys_5) (x0 : List D_api_Value) (x1 : ByteArray) (x2 : Int) (x3 : List D_api_Col) (ret : Bool → Option β) : Option β := ((g19 x1 x2 x3 x0).bind fun r0 => (bif (r0.2 != (0 : Int)) then ((s2 x0 r0.1 r0.2 true x1 x2 x3).bind ret) else (bif (decide (x2 < (1 : Int))) then ((s2 x0 r0.1 r0.2 true x1 x2 x3).bind ret) else ((s2 x0 r0.1 r0.2 (decide (x2 > ((List.length x0) : Int))) x1 x2 x3).bind ret))))
def transomlaw09_SchemaKeys.s2c {β : Type} (g6 : G_transomlaw09_Few) (g7 : G_transomlaw09_awake) (g18 : G_transomlaw05_Few) (g19 : G_schema_Key) (g20 : G_keycode_Row) (g21 : G_schema_FitsKey) (s0 : S_transomlaw09_SchemaKeys_0) (s1 : S_transomlaw09_SchemaKeys_1) (s2 : S_transomlaw09_SchemaKeys_2) (s3 : S_transomlaw09_SchemaKeys_3) (s4 : S_transomlaw09_SchemaKeys_4) (s5 : S_transomlaw09_SchemaKeys_5) (x0 : List D_api_Value) (x1 : ByteArray) (x2 : Int) (x3 : Bool) (x4 : ByteArray) (x5 : Int) (x6 : List D_api_Col) (ret : Bool → Option β) : Option β := (bif x3 then (bif (x2 != (0 : Int)) then (bif ((ByteArray.toList x1) == (ByteArray.toList (ByteArray.mk (List.toArray [])))) then (g7.bind fun r0 => ((s3 r0).bind ret)) else ((s3 false).bind ret)) else ((s3 false).bind ret)) else ((s4 x0 x1 x4 x5 x6).bind ret))
def transomlaw09_SchemaKeys.s3c {β : Type} (g6 : G_transomlaw09_Few) (g7 : G_transomlaw09_awake) (g18 : G_transomlaw05_Few) (g19 : G_schema_Key) (g20 : G_keycode_Row) (g21 : G_schema_FitsKey) (s0 : S_transomlaw09_SchemaKeys_0) (s1 : S_transomlaw09_SchemaKeys_1) (s2 : S_transomlaw09_SchemaKeys_2) (s3 : S_transomlaw09_SchemaKeys_3) (s4 : S_transomlaw09_SchemaKeys_4) (s5 : S_transomlaw09_SchemaKeys_5) (x0 : Bool) (ret : Bool → Option β) : Option β := (ret (x0))
def transomlaw09_SchemaKeys.s4c {β : Type} (g6 : G_transomlaw09_Few) (g7 : G_transomlaw09_awake) (g18 : G_transomlaw05_Few) (g19 : G_schema_Key) (g20 : G_keycode_Row) (g21 : G_schema_FitsKey) (s0 : S_transomlaw09_SchemaKeys_0) (s1 : S_transomlaw09_SchemaKeys_1) (s2 : S_transomlaw09_SchemaKeys_2) (s3 : S_transomlaw09_SchemaKeys_3) (s4 : S_transomlaw09_SchemaKeys_4) (s5 : S_transomlaw09_SchemaKeys_5) (x0 : List D_api_Value) (x1 : ByteArray) (x2 : ByteArray) (x3 : Int) (x4 : List D_api_Col) (ret : Bool → Option β) : Option β := (bif ((true && (decide ((0 : Int) ≤ x3))) && (decide (x3 ≤ ((List.length x0) : Int)))) then ((g20 (List.take ((Int.toNat x3) - (0 : Nat)) (List.drop (0 : Nat) x0))).bind fun r0 => ((s5 x0 x1 r0.1 r0.2 (0 : Int) x2 x3 x4).bind ret)) else none)
def transomlaw09_SchemaKeys.s5c {β : Type} (g6 : G_transomlaw09_Few) (g7 : G_transomlaw09_awake) (g18 : G_transomlaw05_Few) (g19 : G_schema_Key) (g20 : G_keycode_Row) (g21 : G_schema_FitsKey) (s0 : S_transomlaw09_SchemaKeys_0) (s1 : S_transomlaw09_SchemaKeys_1) (s2 : S_transomlaw09_SchemaKeys_2) (s3 : S_transomlaw09_SchemaKeys_3) (s4 : S_transomlaw09_SchemaKeys_4) (s5 : S_transomlaw09_SchemaKeys_5) (x0 : List D_api_Value) (x1 : ByteArray) (x2 : ByteArray) (x3 : Int) (x4 : Int) (x5 : ByteArray) (x6 : Int) (x7 : List D_api_Col) (ret : Bool → Option β) : Option β := (bif (decide (x4 ≤ x6)) then (bif ((true && (decide ((0 : Int) ≤ x4))) && (decide (x4 ≤ ((List.length x0) : Int)))) then ((g21 x5 x6 x7 (List.take ((Int.toNat x4) - (0 : Nat)) (List.drop (0 : Nat) x0)) false).bind fun r0 => (bif (r0 != (0 : Int)) then (ret (false)) else ((s5 x0 x1 x2 x3 (IntKind.wrap IntKind.i64 (x4 + (1 : Int))) x5 x6 x7).bind ret))) else none) else (bif ((ByteArray.toList x2) == (ByteArray.toList x1)) then (bif (x3 == (0 : Int)) then (bif ((true && (decide ((0 : Int) ≤ x6))) && (decide (x6 ≤ ((List.length x0) : Int)))) then ((g21 x5 x6 x7 (List.take ((Int.toNat x6) - (0 : Nat)) (List.drop (0 : Nat) x0)) true).bind fun r1 => (bif (r1 == (0 : Int)) then (g7.bind fun r2 => (ret (r2))) else (ret (false)))) else none) else (ret (false))) else (ret (false))))
theorem transomlaw09_SchemaKeys.c_bind {β : Type} {g6 : G_transomlaw09_Few} {g7 : G_transomlaw09_awake} {g18 : G_transomlaw05_Few} {g19 : G_schema_Key} {g20 : G_keycode_Row} {g21 : G_schema_FitsKey} {s0 : S_transomlaw09_SchemaKeys_0} {s1 : S_transomlaw09_SchemaKeys_1} {s2 : S_transomlaw09_SchemaKeys_2} {s3 : S_transomlaw09_SchemaKeys_3} {s4 : S_transomlaw09_SchemaKeys_4} {s5 : S_transomlaw09_SchemaKeys_5} {a0 : ByteArray} {a1 : Int} {a2 : List D_api_Col} {a3 : List D_api_Value} {ret : Bool → Option β} : transomlaw09_SchemaKeys.c g6 g7 g18 g19 g20 g21 s0 s1 s2 s3 s4 s5 a0 a1 a2 a3 ret = (transomlaw09_SchemaKeys.c g6 g7 g18 g19 g20 g21 s0 s1 s2 s3 s4 s5 a0 a1 a2 a3 some).bind ret := by
  simp only [transomlaw09_SchemaKeys.c, bif_bind, sum_bind, Option.bind_assoc, Option.bind_some, Option.bind_none, Option.bind_fun_some]
theorem transomlaw09_SchemaKeys.s0c_bind {β : Type} {g6 : G_transomlaw09_Few} {g7 : G_transomlaw09_awake} {g18 : G_transomlaw05_Few} {g19 : G_schema_Key} {g20 : G_keycode_Row} {g21 : G_schema_FitsKey} {s0 : S_transomlaw09_SchemaKeys_0} {s1 : S_transomlaw09_SchemaKeys_1} {s2 : S_transomlaw09_SchemaKeys_2} {s3 : S_transomlaw09_SchemaKeys_3} {s4 : S_transomlaw09_SchemaKeys_4} {s5 : S_transomlaw09_SchemaKeys_5} {x0 : List D_api_Value} {x1 : Bool} {x2 : ByteArray} {x3 : Int} {x4 : List D_api_Col} {ret : Bool → Option β} : transomlaw09_SchemaKeys.s0c g6 g7 g18 g19 g20 g21 s0 s1 s2 s3 s4 s5 x0 x1 x2 x3 x4 ret = (transomlaw09_SchemaKeys.s0c g6 g7 g18 g19 g20 g21 s0 s1 s2 s3 s4 s5 x0 x1 x2 x3 x4 some).bind ret := by
  simp only [transomlaw09_SchemaKeys.s0c, bif_bind, sum_bind, Option.bind_assoc, Option.bind_some, Option.bind_none, Option.bind_fun_some]
theorem transomlaw09_SchemaKeys.s1c_bind {β : Type} {g6 : G_transomlaw09_Few} {g7 : G_transomlaw09_awake} {g18 : G_transomlaw05_Few} {g19 : G_schema_Key} {g20 : G_keycode_Row} {g21 : G_schema_FitsKey} {s0 : S_transomlaw09_SchemaKeys_0} {s1 : S_transomlaw09_SchemaKeys_1} {s2 : S_transomlaw09_SchemaKeys_2} {s3 : S_transomlaw09_SchemaKeys_3} {s4 : S_transomlaw09_SchemaKeys_4} {s5 : S_transomlaw09_SchemaKeys_5} {x0 : List D_api_Value} {x1 : ByteArray} {x2 : Int} {x3 : List D_api_Col} {ret : Bool → Option β} : transomlaw09_SchemaKeys.s1c g6 g7 g18 g19 g20 g21 s0 s1 s2 s3 s4 s5 x0 x1 x2 x3 ret = (transomlaw09_SchemaKeys.s1c g6 g7 g18 g19 g20 g21 s0 s1 s2 s3 s4 s5 x0 x1 x2 x3 some).bind ret := by
  simp only [transomlaw09_SchemaKeys.s1c, bif_bind, sum_bind, Option.bind_assoc, Option.bind_some, Option.bind_none, Option.bind_fun_some]
theorem transomlaw09_SchemaKeys.s2c_bind {β : Type} {g6 : G_transomlaw09_Few} {g7 : G_transomlaw09_awake} {g18 : G_transomlaw05_Few} {g19 : G_schema_Key} {g20 : G_keycode_Row} {g21 : G_schema_FitsKey} {s0 : S_transomlaw09_SchemaKeys_0} {s1 : S_transomlaw09_SchemaKeys_1} {s2 : S_transomlaw09_SchemaKeys_2} {s3 : S_transomlaw09_SchemaKeys_3} {s4 : S_transomlaw09_SchemaKeys_4} {s5 : S_transomlaw09_SchemaKeys_5} {x0 : List D_api_Value} {x1 : ByteArray} {x2 : Int} {x3 : Bool} {x4 : ByteArray} {x5 : Int} {x6 : List D_api_Col} {ret : Bool → Option β} : transomlaw09_SchemaKeys.s2c g6 g7 g18 g19 g20 g21 s0 s1 s2 s3 s4 s5 x0 x1 x2 x3 x4 x5 x6 ret = (transomlaw09_SchemaKeys.s2c g6 g7 g18 g19 g20 g21 s0 s1 s2 s3 s4 s5 x0 x1 x2 x3 x4 x5 x6 some).bind ret := by
  simp only [transomlaw09_SchemaKeys.s2c, bif_bind, sum_bind, Option.bind_assoc, Option.bind_some, Option.bind_none, Option.bind_fun_some]
theorem transomlaw09_SchemaKeys.s3c_bind {β : Type} {g6 : G_transomlaw09_Few} {g7 : G_transomlaw09_awake} {g18 : G_transomlaw05_Few} {g19 : G_schema_Key} {g20 : G_keycode_Row} {g21 : G_schema_FitsKey} {s0 : S_transomlaw09_SchemaKeys_0} {s1 : S_transomlaw09_SchemaKeys_1} {s2 : S_transomlaw09_SchemaKeys_2} {s3 : S_transomlaw09_SchemaKeys_3} {s4 : S_transomlaw09_SchemaKeys_4} {s5 : S_transomlaw09_SchemaKeys_5} {x0 : Bool} {ret : Bool → Option β} : transomlaw09_SchemaKeys.s3c g6 g7 g18 g19 g20 g21 s0 s1 s2 s3 s4 s5 x0 ret = (transomlaw09_SchemaKeys.s3c g6 g7 g18 g19 g20 g21 s0 s1 s2 s3 s4 s5 x0 some).bind ret := by
  simp only [transomlaw09_SchemaKeys.s3c, bif_bind, sum_bind, Option.bind_assoc, Option.bind_some, Option.bind_none, Option.bind_fun_some]
theorem transomlaw09_SchemaKeys.s4c_bind {β : Type} {g6 : G_transomlaw09_Few} {g7 : G_transomlaw09_awake} {g18 : G_transomlaw05_Few} {g19 : G_schema_Key} {g20 : G_keycode_Row} {g21 : G_schema_FitsKey} {s0 : S_transomlaw09_SchemaKeys_0} {s1 : S_transomlaw09_SchemaKeys_1} {s2 : S_transomlaw09_SchemaKeys_2} {s3 : S_transomlaw09_SchemaKeys_3} {s4 : S_transomlaw09_SchemaKeys_4} {s5 : S_transomlaw09_SchemaKeys_5} {x0 : List D_api_Value} {x1 : ByteArray} {x2 : ByteArray} {x3 : Int} {x4 : List D_api_Col} {ret : Bool → Option β} : transomlaw09_SchemaKeys.s4c g6 g7 g18 g19 g20 g21 s0 s1 s2 s3 s4 s5 x0 x1 x2 x3 x4 ret = (transomlaw09_SchemaKeys.s4c g6 g7 g18 g19 g20 g21 s0 s1 s2 s3 s4 s5 x0 x1 x2 x3 x4 some).bind ret := by
  simp only [transomlaw09_SchemaKeys.s4c, bif_bind, sum_bind, Option.bind_assoc, Option.bind_some, Option.bind_none, Option.bind_fun_some]
theorem transomlaw09_SchemaKeys.s5c_bind {β : Type} {g6 : G_transomlaw09_Few} {g7 : G_transomlaw09_awake} {g18 : G_transomlaw05_Few} {g19 : G_schema_Key} {g20 : G_keycode_Row} {g21 : G_schema_FitsKey} {s0 : S_transomlaw09_SchemaKeys_0} {s1 : S_transomlaw09_SchemaKeys_1} {s2 : S_transomlaw09_SchemaKeys_2} {s3 : S_transomlaw09_SchemaKeys_3} {s4 : S_transomlaw09_SchemaKeys_4} {s5 : S_transomlaw09_SchemaKeys_5} {x0 : List D_api_Value} {x1 : ByteArray} {x2 : ByteArray} {x3 : Int} {x4 : Int} {x5 : ByteArray} {x6 : Int} {x7 : List D_api_Col} {ret : Bool → Option β} : transomlaw09_SchemaKeys.s5c g6 g7 g18 g19 g20 g21 s0 s1 s2 s3 s4 s5 x0 x1 x2 x3 x4 x5 x6 x7 ret = (transomlaw09_SchemaKeys.s5c g6 g7 g18 g19 g20 g21 s0 s1 s2 s3 s4 s5 x0 x1 x2 x3 x4 x5 x6 x7 some).bind ret := by
  simp only [transomlaw09_SchemaKeys.s5c, bif_bind, sum_bind, Option.bind_assoc, Option.bind_some, Option.bind_none, Option.bind_fun_some]
theorem transomlaw09_SchemaKeys.ev {g6 : G_transomlaw09_Few} {g7 : G_transomlaw09_awake} {g18 : G_transomlaw05_Few} {g19 : G_schema_Key} {g20 : G_keycode_Row} {g21 : G_schema_FitsKey} {s0 : S_transomlaw09_SchemaKeys_0} {s1 : S_transomlaw09_SchemaKeys_1} {s2 : S_transomlaw09_SchemaKeys_2} {s3 : S_transomlaw09_SchemaKeys_3} {s4 : S_transomlaw09_SchemaKeys_4} {s5 : S_transomlaw09_SchemaKeys_5} {a0 : ByteArray} {a1 : Int} {a2 : List D_api_Col} {a3 : List D_api_Value} : evAt (env_transomlaw09_SchemaKeys g6 g7 g18 g19 g20 g21 s0 s1 s2 s3 s4 s5) [] [0, 1] [.v (.agg [(.d .str a0), (.d (.int .i64) a1), (.d (.sl T_api_Col) a2)]), .v (.one (.d (.sl T_api_Value) a3))] [] some = transomlaw09_SchemaKeys.c g6 g7 g18 g19 g20 g21 s0 s1 s2 s3 s4 s5 a0 a1 a2 a3 (fun r => some ⟨.v (.one (.d .bool r)), []⟩) := by
  kernel_rfl
theorem transomlaw09_SchemaKeys.s0_ev {g6 : G_transomlaw09_Few} {g7 : G_transomlaw09_awake} {g18 : G_transomlaw05_Few} {g19 : G_schema_Key} {g20 : G_keycode_Row} {g21 : G_schema_FitsKey} {s0 : S_transomlaw09_SchemaKeys_0} {s1 : S_transomlaw09_SchemaKeys_1} {s2 : S_transomlaw09_SchemaKeys_2} {s3 : S_transomlaw09_SchemaKeys_3} {s4 : S_transomlaw09_SchemaKeys_4} {s5 : S_transomlaw09_SchemaKeys_5} {x0 : List D_api_Value} {x1 : Bool} {x2 : ByteArray} {x3 : Int} {x4 : List D_api_Col} : evAt (env_transomlaw09_SchemaKeys g6 g7 g18 g19 g20 g21 s0 s1 s2 s3 s4 s5) [1, 0, 1] [1, 2, 17] [.v (.one (.d (.sl T_api_Value) x0)), .v (.one (.ptr 0 0)), .v (.one (.d .bool x1))] [some (.box [(.d .str x2), (.d (.int .i64) x3), (.d (.sl T_api_Col) x4)])] some = transomlaw09_SchemaKeys.s0c g6 g7 g18 g19 g20 g21 s0 s1 s2 s3 s4 s5 x0 x1 x2 x3 x4 (fun r => some ⟨.v (.one (.d .bool r)), []⟩) := by
  kernel_rfl
theorem transomlaw09_SchemaKeys.s1_ev {g6 : G_transomlaw09_Few} {g7 : G_transomlaw09_awake} {g18 : G_transomlaw05_Few} {g19 : G_schema_Key} {g20 : G_keycode_Row} {g21 : G_schema_FitsKey} {s0 : S_transomlaw09_SchemaKeys_0} {s1 : S_transomlaw09_SchemaKeys_1} {s2 : S_transomlaw09_SchemaKeys_2} {s3 : S_transomlaw09_SchemaKeys_3} {s4 : S_transomlaw09_SchemaKeys_4} {s5 : S_transomlaw09_SchemaKeys_5} {x0 : List D_api_Value} {x1 : ByteArray} {x2 : Int} {x3 : List D_api_Col} : evAt (env_transomlaw09_SchemaKeys g6 g7 g18 g19 g20 g21 s0 s1 s2 s3 s4 s5) [1, 1] [1, 2] [.v (.one (.d (.sl T_api_Value) x0)), .v (.one (.ptr 0 0))] [some (.box [(.d .str x1), (.d (.int .i64) x2), (.d (.sl T_api_Col) x3)])] some = transomlaw09_SchemaKeys.s1c g6 g7 g18 g19 g20 g21 s0 s1 s2 s3 s4 s5 x0 x1 x2 x3 (fun r => some ⟨.v (.one (.d .bool r)), []⟩) := by
  kernel_rfl
theorem transomlaw09_SchemaKeys.s2_ev {g6 : G_transomlaw09_Few} {g7 : G_transomlaw09_awake} {g18 : G_transomlaw05_Few} {g19 : G_schema_Key} {g20 : G_keycode_Row} {g21 : G_schema_FitsKey} {s0 : S_transomlaw09_SchemaKeys_0} {s1 : S_transomlaw09_SchemaKeys_1} {s2 : S_transomlaw09_SchemaKeys_2} {s3 : S_transomlaw09_SchemaKeys_3} {s4 : S_transomlaw09_SchemaKeys_4} {s5 : S_transomlaw09_SchemaKeys_5} {x0 : List D_api_Value} {x1 : ByteArray} {x2 : Int} {x3 : Bool} {x4 : ByteArray} {x5 : Int} {x6 : List D_api_Col} : evAt (env_transomlaw09_SchemaKeys g6 g7 g18 g19 g20 g21 s0 s1 s2 s3 s4 s5) [1, 0, 1, 1, 1] [1, 2, 5, 6, 38] [.v (.one (.d (.sl T_api_Value) x0)), .v (.one (.ptr 0 0)), .v (.one (.d .str x1)), .v (.one (.d (.int .i64) x2)), .v (.one (.d .bool x3))] [some (.box [(.d .str x4), (.d (.int .i64) x5), (.d (.sl T_api_Col) x6)])] some = transomlaw09_SchemaKeys.s2c g6 g7 g18 g19 g20 g21 s0 s1 s2 s3 s4 s5 x0 x1 x2 x3 x4 x5 x6 (fun r => some ⟨.v (.one (.d .bool r)), []⟩) := by
  kernel_rfl
theorem transomlaw09_SchemaKeys.s3_ev {g6 : G_transomlaw09_Few} {g7 : G_transomlaw09_awake} {g18 : G_transomlaw05_Few} {g19 : G_schema_Key} {g20 : G_keycode_Row} {g21 : G_schema_FitsKey} {s0 : S_transomlaw09_SchemaKeys_0} {s1 : S_transomlaw09_SchemaKeys_1} {s2 : S_transomlaw09_SchemaKeys_2} {s3 : S_transomlaw09_SchemaKeys_3} {s4 : S_transomlaw09_SchemaKeys_4} {s5 : S_transomlaw09_SchemaKeys_5} {x0 : Bool} : evAt (env_transomlaw09_SchemaKeys g6 g7 g18 g19 g20 g21 s0 s1 s2 s3 s4 s5) [1, 2, 1, 0, 1, 1, 1] [4] [.v (.one (.d .bool x0))] [] some = transomlaw09_SchemaKeys.s3c g6 g7 g18 g19 g20 g21 s0 s1 s2 s3 s4 s5 x0 (fun r => some ⟨.v (.one (.d .bool r)), []⟩) := by
  kernel_rfl
theorem transomlaw09_SchemaKeys.s4_ev {g6 : G_transomlaw09_Few} {g7 : G_transomlaw09_awake} {g18 : G_transomlaw05_Few} {g19 : G_schema_Key} {g20 : G_keycode_Row} {g21 : G_schema_FitsKey} {s0 : S_transomlaw09_SchemaKeys_0} {s1 : S_transomlaw09_SchemaKeys_1} {s2 : S_transomlaw09_SchemaKeys_2} {s3 : S_transomlaw09_SchemaKeys_3} {s4 : S_transomlaw09_SchemaKeys_4} {s5 : S_transomlaw09_SchemaKeys_5} {x0 : List D_api_Value} {x1 : ByteArray} {x2 : ByteArray} {x3 : Int} {x4 : List D_api_Col} : evAt (env_transomlaw09_SchemaKeys g6 g7 g18 g19 g20 g21 s0 s1 s2 s3 s4 s5) [1, 1, 1, 1] [1, 2, 5] [.v (.one (.d (.sl T_api_Value) x0)), .v (.one (.ptr 0 0)), .v (.one (.d .str x1))] [some (.box [(.d .str x2), (.d (.int .i64) x3), (.d (.sl T_api_Col) x4)])] some = transomlaw09_SchemaKeys.s4c g6 g7 g18 g19 g20 g21 s0 s1 s2 s3 s4 s5 x0 x1 x2 x3 x4 (fun r => some ⟨.v (.one (.d .bool r)), []⟩) := by
  kernel_rfl
theorem transomlaw09_SchemaKeys.s5_ev {g6 : G_transomlaw09_Few} {g7 : G_transomlaw09_awake} {g18 : G_transomlaw05_Few} {g19 : G_schema_Key} {g20 : G_keycode_Row} {g21 : G_schema_FitsKey} {s0 : S_transomlaw09_SchemaKeys_0} {s1 : S_transomlaw09_SchemaKeys_1} {s2 : S_transomlaw09_SchemaKeys_2} {s3 : S_transomlaw09_SchemaKeys_3} {s4 : S_transomlaw09_SchemaKeys_4} {s5 : S_transomlaw09_SchemaKeys_5} {x0 : List D_api_Value} {x1 : ByteArray} {x2 : ByteArray} {x3 : Int} {x4 : Int} {x5 : ByteArray} {x6 : Int} {x7 : List D_api_Col} : evAt (env_transomlaw09_SchemaKeys g6 g7 g18 g19 g20 g21 s0 s1 s2 s3 s4 s5) [4, 1, 0, 1, 1, 1, 1, 1] [1, 2, 5, 7, 8, 9] [.v (.one (.d (.sl T_api_Value) x0)), .v (.one (.ptr 0 0)), .v (.one (.d .str x1)), .v (.one (.d .str x2)), .v (.one (.d (.int .i64) x3)), .v (.one (.d (.int .i64) x4))] [some (.box [(.d .str x5), (.d (.int .i64) x6), (.d (.sl T_api_Col) x7)])] some = transomlaw09_SchemaKeys.s5c g6 g7 g18 g19 g20 g21 s0 s1 s2 s3 s4 s5 x0 x1 x2 x3 x4 x5 x6 x7 (fun r => some ⟨.v (.one (.d .bool r)), []⟩) := by
  kernel_rfl
mutual
def transomlaw09_SchemaKeys.s0 : Nat → (List D_api_Value) → Bool → ByteArray → Int → (List D_api_Col) → Option Bool
  | 0, _, _, _, _, _ => none
  | k + 1, x0, x1, x2, x3, x4 => transomlaw09_SchemaKeys.s0c (transomlaw09_Few.f k) (transomlaw09_awake.f k) (transomlaw05_Few.f k) (schema_Key.f k) (keycode_Row.f k) (schema_FitsKey.f k) (transomlaw09_SchemaKeys.s0 k) (transomlaw09_SchemaKeys.s1 k) (transomlaw09_SchemaKeys.s2 k) (transomlaw09_SchemaKeys.s3 k) (transomlaw09_SchemaKeys.s4 k) (transomlaw09_SchemaKeys.s5 k) x0 x1 x2 x3 x4 some
def transomlaw09_SchemaKeys.s1 : Nat → (List D_api_Value) → ByteArray → Int → (List D_api_Col) → Option Bool
  | 0, _, _, _, _ => none
  | k + 1, x0, x1, x2, x3 => transomlaw09_SchemaKeys.s1c (transomlaw09_Few.f k) (transomlaw09_awake.f k) (transomlaw05_Few.f k) (schema_Key.f k) (keycode_Row.f k) (schema_FitsKey.f k) (transomlaw09_SchemaKeys.s0 k) (transomlaw09_SchemaKeys.s1 k) (transomlaw09_SchemaKeys.s2 k) (transomlaw09_SchemaKeys.s3 k) (transomlaw09_SchemaKeys.s4 k) (transomlaw09_SchemaKeys.s5 k) x0 x1 x2 x3 some
def transomlaw09_SchemaKeys.s2 : Nat → (List D_api_Value) → ByteArray → Int → Bool → ByteArray → Int → (List D_api_Col) → Option Bool
  | 0, _, _, _, _, _, _, _ => none
  | k + 1, x0, x1, x2, x3, x4, x5, x6 => transomlaw09_SchemaKeys.s2c (transomlaw09_Few.f k) (transomlaw09_awake.f k) (transomlaw05_Few.f k) (schema_Key.f k) (keycode_Row.f k) (schema_FitsKey.f k) (transomlaw09_SchemaKeys.s0 k) (transomlaw09_SchemaKeys.s1 k) (transomlaw09_SchemaKeys.s2 k) (transomlaw09_SchemaKeys.s3 k) (transomlaw09_SchemaKeys.s4 k) (transomlaw09_SchemaKeys.s5 k) x0 x1 x2 x3 x4 x5 x6 some
def transomlaw09_SchemaKeys.s3 : Nat → Bool → Option Bool
  | 0, _ => none
  | k + 1, x0 => transomlaw09_SchemaKeys.s3c (transomlaw09_Few.f k) (transomlaw09_awake.f k) (transomlaw05_Few.f k) (schema_Key.f k) (keycode_Row.f k) (schema_FitsKey.f k) (transomlaw09_SchemaKeys.s0 k) (transomlaw09_SchemaKeys.s1 k) (transomlaw09_SchemaKeys.s2 k) (transomlaw09_SchemaKeys.s3 k) (transomlaw09_SchemaKeys.s4 k) (transomlaw09_SchemaKeys.s5 k) x0 some
def transomlaw09_SchemaKeys.s4 : Nat → (List D_api_Value) → ByteArray → ByteArray → Int → (List D_api_Col) → Option Bool
  | 0, _, _, _, _, _ => none
  | k + 1, x0, x1, x2, x3, x4 => transomlaw09_SchemaKeys.s4c (transomlaw09_Few.f k) (transomlaw09_awake.f k) (transomlaw05_Few.f k) (schema_Key.f k) (keycode_Row.f k) (schema_FitsKey.f k) (transomlaw09_SchemaKeys.s0 k) (transomlaw09_SchemaKeys.s1 k) (transomlaw09_SchemaKeys.s2 k) (transomlaw09_SchemaKeys.s3 k) (transomlaw09_SchemaKeys.s4 k) (transomlaw09_SchemaKeys.s5 k) x0 x1 x2 x3 x4 some
def transomlaw09_SchemaKeys.s5 : Nat → (List D_api_Value) → ByteArray → ByteArray → Int → Int → ByteArray → Int → (List D_api_Col) → Option Bool
  | 0, _, _, _, _, _, _, _, _ => none
  | k + 1, x0, x1, x2, x3, x4, x5, x6, x7 => transomlaw09_SchemaKeys.s5c (transomlaw09_Few.f k) (transomlaw09_awake.f k) (transomlaw05_Few.f k) (schema_Key.f k) (keycode_Row.f k) (schema_FitsKey.f k) (transomlaw09_SchemaKeys.s0 k) (transomlaw09_SchemaKeys.s1 k) (transomlaw09_SchemaKeys.s2 k) (transomlaw09_SchemaKeys.s3 k) (transomlaw09_SchemaKeys.s4 k) (transomlaw09_SchemaKeys.s5 k) x0 x1 x2 x3 x4 x5 x6 x7 some
end
def transomlaw09_SchemaKeys.f (k : Nat) (a0 : ByteArray) (a1 : Int) (a2 : List D_api_Col) (a3 : List D_api_Value) : Option Bool := transomlaw09_SchemaKeys.c (transomlaw09_Few.f k) (transomlaw09_awake.f k) (transomlaw05_Few.f k) (schema_Key.f k) (keycode_Row.f k) (schema_FitsKey.f k) (transomlaw09_SchemaKeys.s0 k) (transomlaw09_SchemaKeys.s1 k) (transomlaw09_SchemaKeys.s2 k) (transomlaw09_SchemaKeys.s3 k) (transomlaw09_SchemaKeys.s4 k) (transomlaw09_SchemaKeys.s5 k) a0 a1 a2 a3 some
theorem transomlaw09_SchemaKeys.is {g6 : G_transomlaw09_Few} {g7 : G_transomlaw09_awake} {g18 : G_transomlaw05_Few} {g19 : G_schema_Key} {g20 : G_keycode_Row} {g21 : G_schema_FitsKey} {s0 : S_transomlaw09_SchemaKeys_0} {s1 : S_transomlaw09_SchemaKeys_1} {s2 : S_transomlaw09_SchemaKeys_2} {s3 : S_transomlaw09_SchemaKeys_3} {s4 : S_transomlaw09_SchemaKeys_4} {s5 : S_transomlaw09_SchemaKeys_5} : FnIs (env_transomlaw09_SchemaKeys g6 g7 g18 g19 g20 g21 s0 s1 s2 s3 s4 s5) 5 Go.Proofs.Tryd.f5 := ⟨Go.Proofs.Tryd.func5, rfl, rfl, rfl, by decide⟩
theorem transomlaw09_SchemaKeys.envok {g6 : G_transomlaw09_Few} {g7 : G_transomlaw09_awake} {g18 : G_transomlaw05_Few} {g19 : G_schema_Key} {g20 : G_keycode_Row} {g21 : G_schema_FitsKey} {s0 : S_transomlaw09_SchemaKeys_0} {s1 : S_transomlaw09_SchemaKeys_1} {s2 : S_transomlaw09_SchemaKeys_2} {s3 : S_transomlaw09_SchemaKeys_3} {s4 : S_transomlaw09_SchemaKeys_4} {s5 : S_transomlaw09_SchemaKeys_5} (h6 : CtOK Go.Proofs.Tryd.prog 6 (ct_transomlaw09_Few g6)) (h7 : CtOK Go.Proofs.Tryd.prog 7 (ct_transomlaw09_awake g7)) (h18 : CtOK Go.Proofs.Tryd.prog 18 (ct_transomlaw05_Few g18)) (h19 : CtOK Go.Proofs.Tryd.prog 19 (ct_schema_Key g19)) (h20 : CtOK Go.Proofs.Tryd.prog 20 (ct_keycode_Row g20)) (h21 : CtOK Go.Proofs.Tryd.prog 21 (ct_schema_FitsKey g21)) : EnvOK (env_transomlaw09_SchemaKeys g6 g7 g18 g19 g20 g21 s0 s1 s2 s3 s4 s5).toEnv := by
  intro f c h
  simp only [env_transomlaw09_SchemaKeys] at h
  split at h
  · rename_i e; subst e; cases h; exact h6
  split at h
  · rename_i e; subst e; cases h; exact h7
  split at h
  · rename_i e; subst e; cases h; exact h18
  split at h
  · rename_i e; subst e; cases h; exact h19
  split at h
  · rename_i e; subst e; cases h; exact h20
  split at h
  · rename_i e; subst e; cases h; exact h21
  simp at h
noncomputable abbrev transomlaw09_SchemaKeys.E (k : Nat) : FEnv := env_transomlaw09_SchemaKeys (transomlaw09_Few.f k) (transomlaw09_awake.f k) (transomlaw05_Few.f k) (schema_Key.f k) (keycode_Row.f k) (schema_FitsKey.f k) (transomlaw09_SchemaKeys.s0 k) (transomlaw09_SchemaKeys.s1 k) (transomlaw09_SchemaKeys.s2 k) (transomlaw09_SchemaKeys.s3 k) (transomlaw09_SchemaKeys.s4 k) (transomlaw09_SchemaKeys.s5 k)
theorem transomlaw09_SchemaKeys.hE (k : Nat) : EnvOK (transomlaw09_SchemaKeys.E k).toEnv := transomlaw09_SchemaKeys.envok (transomlaw09_Few.ok k) (transomlaw09_awake.ok k) (transomlaw05_Few.ok k) (schema_Key.ok k) (keycode_Row.ok k) (schema_FitsKey.ok k)
theorem transomlaw09_SchemaKeys.segs_ok : ∀ k, ∀ s ∈ (transomlaw09_SchemaKeys.E k).segs, SegOK (transomlaw09_SchemaKeys.E k) Go.Proofs.Tryd.f5 s
  | 0 => by
    intro s hs
    simp only [transomlaw09_SchemaKeys.E, env_transomlaw09_SchemaKeys, List.mem_cons, List.not_mem_nil, or_false] at hs
    rcases hs with rfl | rfl | rfl | rfl | rfl | rfl
    · intro tvs blks res h; exfalso; simp only [seg_transomlaw09_SchemaKeys_0] at h; split at h <;> simp [transomlaw09_SchemaKeys.s0] at h
    · intro tvs blks res h; exfalso; simp only [seg_transomlaw09_SchemaKeys_1] at h; split at h <;> simp [transomlaw09_SchemaKeys.s1] at h
    · intro tvs blks res h; exfalso; simp only [seg_transomlaw09_SchemaKeys_2] at h; split at h <;> simp [transomlaw09_SchemaKeys.s2] at h
    · intro tvs blks res h; exfalso; simp only [seg_transomlaw09_SchemaKeys_3] at h; split at h <;> simp [transomlaw09_SchemaKeys.s3] at h
    · intro tvs blks res h; exfalso; simp only [seg_transomlaw09_SchemaKeys_4] at h; split at h <;> simp [transomlaw09_SchemaKeys.s4] at h
    · intro tvs blks res h; exfalso; simp only [seg_transomlaw09_SchemaKeys_5] at h; split at h <;> simp [transomlaw09_SchemaKeys.s5] at h
  | k + 1 => by
    intro s hs
    simp only [transomlaw09_SchemaKeys.E, env_transomlaw09_SchemaKeys, List.mem_cons, List.not_mem_nil, or_false] at hs
    rcases hs with rfl | rfl | rfl | rfl | rfl | rfl
    · refine seg_of_ev (E := transomlaw09_SchemaKeys.E k) (transomlaw09_SchemaKeys.hE k) ⟨transomlaw09_SchemaKeys.is.rvs⟩ (transomlaw09_SchemaKeys.segs_ok k) ?_
      intro tvs blks res h
      simp only [seg_transomlaw09_SchemaKeys_0] at h
      split at h
      · exact (transomlaw09_SchemaKeys.s0_ev.trans transomlaw09_SchemaKeys.s0c_bind).trans h
      · simp at h
    · refine seg_of_ev (E := transomlaw09_SchemaKeys.E k) (transomlaw09_SchemaKeys.hE k) ⟨transomlaw09_SchemaKeys.is.rvs⟩ (transomlaw09_SchemaKeys.segs_ok k) ?_
      intro tvs blks res h
      simp only [seg_transomlaw09_SchemaKeys_1] at h
      split at h
      · exact (transomlaw09_SchemaKeys.s1_ev.trans transomlaw09_SchemaKeys.s1c_bind).trans h
      · simp at h
    · refine seg_of_ev (E := transomlaw09_SchemaKeys.E k) (transomlaw09_SchemaKeys.hE k) ⟨transomlaw09_SchemaKeys.is.rvs⟩ (transomlaw09_SchemaKeys.segs_ok k) ?_
      intro tvs blks res h
      simp only [seg_transomlaw09_SchemaKeys_2] at h
      split at h
      · exact (transomlaw09_SchemaKeys.s2_ev.trans transomlaw09_SchemaKeys.s2c_bind).trans h
      · simp at h
    · refine seg_of_ev (E := transomlaw09_SchemaKeys.E k) (transomlaw09_SchemaKeys.hE k) ⟨transomlaw09_SchemaKeys.is.rvs⟩ (transomlaw09_SchemaKeys.segs_ok k) ?_
      intro tvs blks res h
      simp only [seg_transomlaw09_SchemaKeys_3] at h
      split at h
      · exact (transomlaw09_SchemaKeys.s3_ev.trans transomlaw09_SchemaKeys.s3c_bind).trans h
      · simp at h
    · refine seg_of_ev (E := transomlaw09_SchemaKeys.E k) (transomlaw09_SchemaKeys.hE k) ⟨transomlaw09_SchemaKeys.is.rvs⟩ (transomlaw09_SchemaKeys.segs_ok k) ?_
      intro tvs blks res h
      simp only [seg_transomlaw09_SchemaKeys_4] at h
      split at h
      · exact (transomlaw09_SchemaKeys.s4_ev.trans transomlaw09_SchemaKeys.s4c_bind).trans h
      · simp at h
    · refine seg_of_ev (E := transomlaw09_SchemaKeys.E k) (transomlaw09_SchemaKeys.hE k) ⟨transomlaw09_SchemaKeys.is.rvs⟩ (transomlaw09_SchemaKeys.segs_ok k) ?_
      intro tvs blks res h
      simp only [seg_transomlaw09_SchemaKeys_5] at h
      split at h
      · exact (transomlaw09_SchemaKeys.s5_ev.trans transomlaw09_SchemaKeys.s5c_bind).trans h
      · simp at h
theorem transomlaw09_SchemaKeys.ok (k : Nat) : CtOK Go.Proofs.Tryd.prog 5 (ct_transomlaw09_SchemaKeys (transomlaw09_SchemaKeys.f k)) := by
  refine ct_of_ev (E := transomlaw09_SchemaKeys.E k) transomlaw09_SchemaKeys.is (transomlaw09_SchemaKeys.hE k) (transomlaw09_SchemaKeys.segs_ok k) rfl ?_
  intro tvs blks res h
  simp only [ct_transomlaw09_SchemaKeys] at h
  split at h
  · exact (transomlaw09_SchemaKeys.ev.trans transomlaw09_SchemaKeys.c_bind).trans h
  · simp at h
end Go.Proofs.YtddlebbjaadbeaaDoor.Aev
