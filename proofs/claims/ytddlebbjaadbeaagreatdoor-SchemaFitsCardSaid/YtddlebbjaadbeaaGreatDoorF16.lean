/- By a program of this session (AEV): functions of the program as plain functions, and that the machine does what they say. -/
import Derived.Test.YtddlebbjaadbeaaGreatDoorTys
import Derived.Test.YtddlebbjaadbeaaGreatDoorProg
import Derived.Laws.Externs
import Derived.Lib.Bytealg
import Derived.Test.YtddlebbjaadbeaaGreatDoorF0
import Derived.Test.YtddlebbjaadbeaaGreatDoorF4
import Derived.Test.YtddlebbjaadbeaaGreatDoorF5
import Derived.Test.YtddlebbjaadbeaaGreatDoorF6
import Derived.Test.YtddlebbjaadbeaaGreatDoorF10
import Derived.Test.YtddlebbjaadbeaaGreatDoorF14
import Derived.Test.YtddlebbjaadbeaaGreatDoorF15
namespace Go.Proofs.YtddlebbjaadbeaaGreatDoor.Aev
set_option linter.unusedVariables false
set_option linter.unusedSimpArgs false
set_option maxRecDepth 100000
set_option maxHeartbeats 4000000
open Go
/-! ### transomlaw09_SchemaFits: function 3 -/
abbrev G_transomlaw09_SchemaFits : Type := ByteArray → Int → (List D_api_Col) → (List D_api_Value) → Bool → Option Bool
def ct_transomlaw09_SchemaFits (g : G_transomlaw09_SchemaFits) : Ct where
  nin := 0
  mv := []
  F := fun tvs blks {β} K => match tvs, blks with
    | [.v (.agg [(.d .str a0), (.d (.int .i64) a1), (.d (.sl (.pair .str (.pair (.int .i64) (.pair .bool (.pair (.pair (.int .i64) (.pair (.int .i64) (.pair (.int .u64) (.pair .str .unit)))) .unit))))) a2)]), .v (.one (.d (.sl (.pair (.int .i64) (.pair (.int .i64) (.pair (.int .u64) (.pair .str .unit))))) a3)), .v (.one (.d .bool a4))], [] => (g a0 a1 a2 a3 a4).bind fun r => K ⟨.v (.one (.d .bool r)), []⟩
    | _, _ => none
  legit := fun tvs blks K r h => by
    split at h
    · obtain ⟨x, hx, hk⟩ := Option.bind_eq_some_iff.1 h
      refine ⟨_, ?_, hk⟩
      simp only [hx, Option.bind_some]
    · simp at h
abbrev S_transomlaw09_SchemaFits_0 : Type := (List D_api_Value) → Bool → Bool → ByteArray → Int → (List D_api_Col) → Option Bool
abbrev S_transomlaw09_SchemaFits_1 : Type := (List D_api_Value) → Bool → ByteArray → Int → (List D_api_Col) → Option Bool
def seg_transomlaw09_SchemaFits_0 (g : S_transomlaw09_SchemaFits_0) : Seg where
  path := [1, 0, 1]
  prep := []
  keep := [1, 2, 3, 18]
  F := fun tvs blks {β} K => match tvs, blks with
    | [.v (.one (.d (.sl (.pair (.int .i64) (.pair (.int .i64) (.pair (.int .u64) (.pair .str .unit))))) x0)), .v (.one (.d .bool x1)), .v (.one (.ptr 0 0)), .v (.one (.d .bool x2))], [some (.box [(.d .str x3), (.d (.int .i64) x4), (.d (.sl (.pair .str (.pair (.int .i64) (.pair .bool (.pair (.pair (.int .i64) (.pair (.int .i64) (.pair (.int .u64) (.pair .str .unit)))) .unit))))) x5)])] => (g x0 x1 x2 x3 x4 x5).bind fun r => K ⟨.v (.one (.d .bool r)), []⟩
    | _, _ => none
  legit := fun tvs blks K r h => by
    split at h
    · obtain ⟨x, hx, hk⟩ := Option.bind_eq_some_iff.1 h
      refine ⟨_, ?_, hk⟩
      simp only [hx, Option.bind_some]
    · simp at h
def seg_transomlaw09_SchemaFits_1 (g : S_transomlaw09_SchemaFits_1) : Seg where
  path := [1, 1]
  prep := []
  keep := [1, 2, 3]
  F := fun tvs blks {β} K => match tvs, blks with
    | [.v (.one (.d (.sl (.pair (.int .i64) (.pair (.int .i64) (.pair (.int .u64) (.pair .str .unit))))) x0)), .v (.one (.d .bool x1)), .v (.one (.ptr 0 0))], [some (.box [(.d .str x2), (.d (.int .i64) x3), (.d (.sl (.pair .str (.pair (.int .i64) (.pair .bool (.pair (.pair (.int .i64) (.pair (.int .i64) (.pair (.int .u64) (.pair .str .unit)))) .unit))))) x4)])] => (g x0 x1 x2 x3 x4).bind fun r => K ⟨.v (.one (.d .bool r)), []⟩
    | _, _ => none
  legit := fun tvs blks K r h => by
    split at h
    · obtain ⟨x, hx, hk⟩ := Option.bind_eq_some_iff.1 h
      refine ⟨_, ?_, hk⟩
      simp only [hx, Option.bind_some]
    · simp at h
noncomputable def env_transomlaw09_SchemaFits (g5 : G_transomlaw09_Few) (g6 : G_transomlaw05_Few) (g7 : G_transomlaw09_awake) (g8 : G_schema_Key) (g9 : G_transomref09_Key) (g10 : G_schema_Fits) (g11 : G_transomref09_Fits) (g12 : G_schema_FitsKey) (g13 : G_transomref09_FitsKey) (s0 : S_transomlaw09_SchemaFits_0) (s1 : S_transomlaw09_SchemaFits_1) : FEnv := { P := Go.Proofs.Tryz.prog, ct := fun m => if m = 5 then some (ct_transomlaw09_Few g5) else if m = 6 then some (ct_transomlaw05_Few g6) else if m = 7 then some (ct_transomlaw09_awake g7) else if m = 8 then some (ct_schema_Key g8) else if m = 9 then some (ct_transomref09_Key g9) else if m = 10 then some (ct_schema_Fits g10) else if m = 11 then some (ct_transomref09_Fits g11) else if m = 12 then some (ct_schema_FitsKey g12) else if m = 13 then some (ct_transomref09_FitsKey g13) else none, N := 63, body := Go.Proofs.Tryz.f3.body.getD .skip, rvs := [.tmp 6], rts := [4], nin := 0, rmv := [], segs := [seg_transomlaw09_SchemaFits_0 s0, seg_transomlaw09_SchemaFits_1 s1] }
def transomlaw09_SchemaFits.c {β : Type} (g5 : G_transomlaw09_Few) (g6 : G_transomlaw05_Few) (g7 : G_transomlaw09_awake) (g8 : G_schema_Key) (g9 : G_transomref09_Key) (g10 : G_schema_Fits) (g11 : G_transomref09_Fits) (g12 : G_schema_FitsKey) (g13 : G_transomref09_FitsKey) (s0 : S_transomlaw09_SchemaFits_0) (s1 : S_transomlaw09_SchemaFits_1) (a0 : ByteArray) (a1 : Int) (a2 : List D_api_Col) (a3 : List D_api_Value) (a4 : Bool) (ret : Bool → Option β) : Option β := ((g5 a0 a1 a2).bind fun r0 => (bif (r0 == (0 : Int)) then ((s0 a3 a4 true a0 a1 a2).bind ret) else ((g6 a3).bind fun r1 => ((s0 a3 a4 (r1 == (0 : Int)) a0 a1 a2).bind ret))))
def transomlaw09_SchemaFits.s0c {β : Type} (g5 : G_transomlaw09_Few) (g6 : G_transomlaw05_Few) (g7 : G_transomlaw09_awake) (g8 : G_schema_Key) (g9 : G_transomref09_Key) (g10 : G_schema_Fits) (g11 : G_transomref09_Fits) (g12 : G_schema_FitsKey) (g13 : G_transomref09_FitsKey) (s0 : S_transomlaw09_SchemaFits_0) (s1 : S_transomlaw09_SchemaFits_1) (x0 : List D_api_Value) (x1 : Bool) (x2 : Bool) (x3 : ByteArray) (x4 : Int) (x5 : List D_api_Col) (ret : Bool → Option β) : Option β := (bif x2 then (g7.bind fun r0 => (ret (r0))) else ((s1 x0 x1 x3 x4 x5).bind ret))
def transomlaw09_SchemaFits.s1c {β : Type} (g5 : G_transomlaw09_Few) (g6 : G_transomlaw05_Few) (g7 : G_transomlaw09_awake) (g8 : G_schema_Key) (g9 : G_transomref09_Key) (g10 : G_schema_Fits) (g11 : G_transomref09_Fits) (g12 : G_schema_FitsKey) (g13 : G_transomref09_FitsKey) (s0 : S_transomlaw09_SchemaFits_0) (s1 : S_transomlaw09_SchemaFits_1) (x0 : List D_api_Value) (x1 : Bool) (x2 : ByteArray) (x3 : Int) (x4 : List D_api_Col) (ret : Bool → Option β) : Option β := ((g8 x2 x3 x4 x0).bind fun r0 => ((g9 x2 x3 x4 x0).bind fun r1 => ((g10 x2 x3 x4 x0).bind fun r2 => ((g11 x2 x3 x4 x0).bind fun r3 => (bif (r2 == r3) then ((g12 x2 x3 x4 x0 x1).bind fun r4 => ((g13 x2 x3 x4 x0 x1).bind fun r5 => (bif (r4 == r5) then (bif ((ByteArray.toList r0.1) == (ByteArray.toList r1.1)) then (bif (r0.2 == r1.2) then (g7.bind fun r6 => (ret (r6))) else (ret (false))) else (ret (false))) else (ret (false))))) else (ret (false)))))))
theorem transomlaw09_SchemaFits.c_bind {β : Type} {g5 : G_transomlaw09_Few} {g6 : G_transomlaw05_Few} {g7 : G_transomlaw09_awake} {g8 : G_schema_Key} {g9 : G_transomref09_Key} {g10 : G_schema_Fits} {g11 : G_transomref09_Fits} {g12 : G_schema_FitsKey} {g13 : G_transomref09_FitsKey} {s0 : S_transomlaw09_SchemaFits_0} {s1 : S_transomlaw09_SchemaFits_1} {a0 : ByteArray} {a1 : Int} {a2 : List D_api_Col} {a3 : List D_api_Value} {a4 : Bool} {ret : Bool → Option β} : transomlaw09_SchemaFits.c g5 g6 g7 g8 g9 g10 g11 g12 g13 s0 s1 a0 a1 a2 a3 a4 ret = (transomlaw09_SchemaFits.c g5 g6 g7 g8 g9 g10 g11 g12 g13 s0 s1 a0 a1 a2 a3 a4 some).bind ret := by
  simp only [transomlaw09_SchemaFits.c, bif_bind, sum_bind, Option.bind_assoc, Option.bind_some, Option.bind_none, Option.bind_fun_some]
theorem transomlaw09_SchemaFits.s0c_bind {β : Type} {g5 : G_transomlaw09_Few} {g6 : G_transomlaw05_Few} {g7 : G_transomlaw09_awake} {g8 : G_schema_Key} {g9 : G_transomref09_Key} {g10 : G_schema_Fits} {g11 : G_transomref09_Fits} {g12 : G_schema_FitsKey} {g13 : G_transomref09_FitsKey} {s0 : S_transomlaw09_SchemaFits_0} {s1 : S_transomlaw09_SchemaFits_1} {x0 : List D_api_Value} {x1 : Bool} {x2 : Bool} {x3 : ByteArray} {x4 : Int} {x5 : List D_api_Col} {ret : Bool → Option β} : transomlaw09_SchemaFits.s0c g5 g6 g7 g8 g9 g10 g11 g12 g13 s0 s1 x0 x1 x2 x3 x4 x5 ret = (transomlaw09_SchemaFits.s0c g5 g6 g7 g8 g9 g10 g11 g12 g13 s0 s1 x0 x1 x2 x3 x4 x5 some).bind ret := by
  simp only [transomlaw09_SchemaFits.s0c, bif_bind, sum_bind, Option.bind_assoc, Option.bind_some, Option.bind_none, Option.bind_fun_some]
theorem transomlaw09_SchemaFits.s1c_bind {β : Type} {g5 : G_transomlaw09_Few} {g6 : G_transomlaw05_Few} {g7 : G_transomlaw09_awake} {g8 : G_schema_Key} {g9 : G_transomref09_Key} {g10 : G_schema_Fits} {g11 : G_transomref09_Fits} {g12 : G_schema_FitsKey} {g13 : G_transomref09_FitsKey} {s0 : S_transomlaw09_SchemaFits_0} {s1 : S_transomlaw09_SchemaFits_1} {x0 : List D_api_Value} {x1 : Bool} {x2 : ByteArray} {x3 : Int} {x4 : List D_api_Col} {ret : Bool → Option β} : transomlaw09_SchemaFits.s1c g5 g6 g7 g8 g9 g10 g11 g12 g13 s0 s1 x0 x1 x2 x3 x4 ret = (transomlaw09_SchemaFits.s1c g5 g6 g7 g8 g9 g10 g11 g12 g13 s0 s1 x0 x1 x2 x3 x4 some).bind ret := by
  simp only [transomlaw09_SchemaFits.s1c, bif_bind, sum_bind, Option.bind_assoc, Option.bind_some, Option.bind_none, Option.bind_fun_some]
theorem transomlaw09_SchemaFits.ev {g5 : G_transomlaw09_Few} {g6 : G_transomlaw05_Few} {g7 : G_transomlaw09_awake} {g8 : G_schema_Key} {g9 : G_transomref09_Key} {g10 : G_schema_Fits} {g11 : G_transomref09_Fits} {g12 : G_schema_FitsKey} {g13 : G_transomref09_FitsKey} {s0 : S_transomlaw09_SchemaFits_0} {s1 : S_transomlaw09_SchemaFits_1} {a0 : ByteArray} {a1 : Int} {a2 : List D_api_Col} {a3 : List D_api_Value} {a4 : Bool} : evAt (env_transomlaw09_SchemaFits g5 g6 g7 g8 g9 g10 g11 g12 g13 s0 s1) [] [0, 1, 2] [.v (.agg [(.d .str a0), (.d (.int .i64) a1), (.d (.sl T_api_Col) a2)]), .v (.one (.d (.sl T_api_Value) a3)), .v (.one (.d .bool a4))] [] some = transomlaw09_SchemaFits.c g5 g6 g7 g8 g9 g10 g11 g12 g13 s0 s1 a0 a1 a2 a3 a4 (fun r => some ⟨.v (.one (.d .bool r)), []⟩) := by
  kernel_rfl
theorem transomlaw09_SchemaFits.s0_ev {g5 : G_transomlaw09_Few} {g6 : G_transomlaw05_Few} {g7 : G_transomlaw09_awake} {g8 : G_schema_Key} {g9 : G_transomref09_Key} {g10 : G_schema_Fits} {g11 : G_transomref09_Fits} {g12 : G_schema_FitsKey} {g13 : G_transomref09_FitsKey} {s0 : S_transomlaw09_SchemaFits_0} {s1 : S_transomlaw09_SchemaFits_1} {x0 : List D_api_Value} {x1 : Bool} {x2 : Bool} {x3 : ByteArray} {x4 : Int} {x5 : List D_api_Col} : evAt (env_transomlaw09_SchemaFits g5 g6 g7 g8 g9 g10 g11 g12 g13 s0 s1) [1, 0, 1] [1, 2, 3, 18] [.v (.one (.d (.sl T_api_Value) x0)), .v (.one (.d .bool x1)), .v (.one (.ptr 0 0)), .v (.one (.d .bool x2))] [some (.box [(.d .str x3), (.d (.int .i64) x4), (.d (.sl T_api_Col) x5)])] some = transomlaw09_SchemaFits.s0c g5 g6 g7 g8 g9 g10 g11 g12 g13 s0 s1 x0 x1 x2 x3 x4 x5 (fun r => some ⟨.v (.one (.d .bool r)), []⟩) := by
  kernel_rfl
theorem transomlaw09_SchemaFits.s1_ev {g5 : G_transomlaw09_Few} {g6 : G_transomlaw05_Few} {g7 : G_transomlaw09_awake} {g8 : G_schema_Key} {g9 : G_transomref09_Key} {g10 : G_schema_Fits} {g11 : G_transomref09_Fits} {g12 : G_schema_FitsKey} {g13 : G_transomref09_FitsKey} {s0 : S_transomlaw09_SchemaFits_0} {s1 : S_transomlaw09_SchemaFits_1} {x0 : List D_api_Value} {x1 : Bool} {x2 : ByteArray} {x3 : Int} {x4 : List D_api_Col} : evAt (env_transomlaw09_SchemaFits g5 g6 g7 g8 g9 g10 g11 g12 g13 s0 s1) [1, 1] [1, 2, 3] [.v (.one (.d (.sl T_api_Value) x0)), .v (.one (.d .bool x1)), .v (.one (.ptr 0 0))] [some (.box [(.d .str x2), (.d (.int .i64) x3), (.d (.sl T_api_Col) x4)])] some = transomlaw09_SchemaFits.s1c g5 g6 g7 g8 g9 g10 g11 g12 g13 s0 s1 x0 x1 x2 x3 x4 (fun r => some ⟨.v (.one (.d .bool r)), []⟩) := by
  kernel_rfl
mutual
def transomlaw09_SchemaFits.s0 : Nat → (List D_api_Value) → Bool → Bool → ByteArray → Int → (List D_api_Col) → Option Bool
  | 0, _, _, _, _, _, _ => none
  | k + 1, x0, x1, x2, x3, x4, x5 => transomlaw09_SchemaFits.s0c (transomlaw09_Few.f k) (transomlaw05_Few.f k) (transomlaw09_awake.f k) (schema_Key.f k) (transomref09_Key.f k) (schema_Fits.f k) (transomref09_Fits.f k) (schema_FitsKey.f k) (transomref09_FitsKey.f k) (transomlaw09_SchemaFits.s0 k) (transomlaw09_SchemaFits.s1 k) x0 x1 x2 x3 x4 x5 some
def transomlaw09_SchemaFits.s1 : Nat → (List D_api_Value) → Bool → ByteArray → Int → (List D_api_Col) → Option Bool
  | 0, _, _, _, _, _ => none
  | k + 1, x0, x1, x2, x3, x4 => transomlaw09_SchemaFits.s1c (transomlaw09_Few.f k) (transomlaw05_Few.f k) (transomlaw09_awake.f k) (schema_Key.f k) (transomref09_Key.f k) (schema_Fits.f k) (transomref09_Fits.f k) (schema_FitsKey.f k) (transomref09_FitsKey.f k) (transomlaw09_SchemaFits.s0 k) (transomlaw09_SchemaFits.s1 k) x0 x1 x2 x3 x4 some
end
def transomlaw09_SchemaFits.f (k : Nat) (a0 : ByteArray) (a1 : Int) (a2 : List D_api_Col) (a3 : List D_api_Value) (a4 : Bool) : Option Bool := transomlaw09_SchemaFits.c (transomlaw09_Few.f k) (transomlaw05_Few.f k) (transomlaw09_awake.f k) (schema_Key.f k) (transomref09_Key.f k) (schema_Fits.f k) (transomref09_Fits.f k) (schema_FitsKey.f k) (transomref09_FitsKey.f k) (transomlaw09_SchemaFits.s0 k) (transomlaw09_SchemaFits.s1 k) a0 a1 a2 a3 a4 some
theorem transomlaw09_SchemaFits.is {g5 : G_transomlaw09_Few} {g6 : G_transomlaw05_Few} {g7 : G_transomlaw09_awake} {g8 : G_schema_Key} {g9 : G_transomref09_Key} {g10 : G_schema_Fits} {g11 : G_transomref09_Fits} {g12 : G_schema_FitsKey} {g13 : G_transomref09_FitsKey} {s0 : S_transomlaw09_SchemaFits_0} {s1 : S_transomlaw09_SchemaFits_1} : FnIs (env_transomlaw09_SchemaFits g5 g6 g7 g8 g9 g10 g11 g12 g13 s0 s1) 3 Go.Proofs.Tryz.f3 := ⟨Go.Proofs.Tryz.func3, rfl, rfl, rfl, by decide⟩
theorem transomlaw09_SchemaFits.envok {g5 : G_transomlaw09_Few} {g6 : G_transomlaw05_Few} {g7 : G_transomlaw09_awake} {g8 : G_schema_Key} {g9 : G_transomref09_Key} {g10 : G_schema_Fits} {g11 : G_transomref09_Fits} {g12 : G_schema_FitsKey} {g13 : G_transomref09_FitsKey} {s0 : S_transomlaw09_SchemaFits_0} {s1 : S_transomlaw09_SchemaFits_1} (h5 : CtOK Go.Proofs.Tryz.prog 5 (ct_transomlaw09_Few g5)) (h6 : CtOK Go.Proofs.Tryz.prog 6 (ct_transomlaw05_Few g6)) (h7 : CtOK Go.Proofs.Tryz.prog 7 (ct_transomlaw09_awake g7)) (h8 : CtOK Go.Proofs.Tryz.prog 8 (ct_schema_Key g8)) (h9 : CtOK Go.Proofs.Tryz.prog 9 (ct_transomref09_Key g9)) (h10 : CtOK Go.Proofs.Tryz.prog 10 (ct_schema_Fits g10)) (h11 : CtOK Go.Proofs.Tryz.prog 11 (ct_transomref09_Fits g11)) (h12 : CtOK Go.Proofs.Tryz.prog 12 (ct_schema_FitsKey g12)) (h13 : CtOK Go.Proofs.Tryz.prog 13 (ct_transomref09_FitsKey g13)) : EnvOK (env_transomlaw09_SchemaFits g5 g6 g7 g8 g9 g10 g11 g12 g13 s0 s1).toEnv := by
  intro f c h
  simp only [env_transomlaw09_SchemaFits] at h
  split at h
  · rename_i e; subst e; cases h; exact h5
  split at h
  · rename_i e; subst e; cases h; exact h6
  split at h
  · rename_i e; subst e; cases h; exact h7
  split at h
  · rename_i e; subst e; cases h; exact h8
  split at h
  · rename_i e; subst e; cases h; exact h9
  split at h
  · rename_i e; subst e; cases h; exact h10
  split at h
  · rename_i e; subst e; cases h; exact h11
  split at h
  · rename_i e; subst e; cases h; exact h12
  split at h
  · rename_i e; subst e; cases h; exact h13
  simp at h
noncomputable abbrev transomlaw09_SchemaFits.E (k : Nat) : FEnv := env_transomlaw09_SchemaFits (transomlaw09_Few.f k) (transomlaw05_Few.f k) (transomlaw09_awake.f k) (schema_Key.f k) (transomref09_Key.f k) (schema_Fits.f k) (transomref09_Fits.f k) (schema_FitsKey.f k) (transomref09_FitsKey.f k) (transomlaw09_SchemaFits.s0 k) (transomlaw09_SchemaFits.s1 k)
theorem transomlaw09_SchemaFits.hE (k : Nat) : EnvOK (transomlaw09_SchemaFits.E k).toEnv := transomlaw09_SchemaFits.envok (transomlaw09_Few.ok k) (transomlaw05_Few.ok k) (transomlaw09_awake.ok k) (schema_Key.ok k) (transomref09_Key.ok k) (schema_Fits.ok k) (transomref09_Fits.ok k) (schema_FitsKey.ok k) (transomref09_FitsKey.ok k)
theorem transomlaw09_SchemaFits.segs_ok : ∀ k, ∀ s ∈ (transomlaw09_SchemaFits.E k).segs, SegOK (transomlaw09_SchemaFits.E k) Go.Proofs.Tryz.f3 s
  | 0 => by
    intro s hs
    simp only [transomlaw09_SchemaFits.E, env_transomlaw09_SchemaFits, List.mem_cons, List.not_mem_nil, or_false] at hs
    rcases hs with rfl | rfl
    · intro tvs blks res h; exfalso; simp only [seg_transomlaw09_SchemaFits_0] at h; split at h <;> simp [transomlaw09_SchemaFits.s0] at h
    · intro tvs blks res h; exfalso; simp only [seg_transomlaw09_SchemaFits_1] at h; split at h <;> simp [transomlaw09_SchemaFits.s1] at h
  | k + 1 => by
    intro s hs
    simp only [transomlaw09_SchemaFits.E, env_transomlaw09_SchemaFits, List.mem_cons, List.not_mem_nil, or_false] at hs
    rcases hs with rfl | rfl
    · refine seg_of_ev (E := transomlaw09_SchemaFits.E k) (transomlaw09_SchemaFits.hE k) ⟨transomlaw09_SchemaFits.is.rvs⟩ (transomlaw09_SchemaFits.segs_ok k) ?_
      intro tvs blks res h
      simp only [seg_transomlaw09_SchemaFits_0] at h
      split at h
      · exact (transomlaw09_SchemaFits.s0_ev.trans transomlaw09_SchemaFits.s0c_bind).trans h
      · simp at h
    · refine seg_of_ev (E := transomlaw09_SchemaFits.E k) (transomlaw09_SchemaFits.hE k) ⟨transomlaw09_SchemaFits.is.rvs⟩ (transomlaw09_SchemaFits.segs_ok k) ?_
      intro tvs blks res h
      simp only [seg_transomlaw09_SchemaFits_1] at h
      split at h
      · exact (transomlaw09_SchemaFits.s1_ev.trans transomlaw09_SchemaFits.s1c_bind).trans h
      · simp at h
theorem transomlaw09_SchemaFits.ok (k : Nat) : CtOK Go.Proofs.Tryz.prog 3 (ct_transomlaw09_SchemaFits (transomlaw09_SchemaFits.f k)) := by
  refine ct_of_ev (E := transomlaw09_SchemaFits.E k) transomlaw09_SchemaFits.is (transomlaw09_SchemaFits.hE k) (transomlaw09_SchemaFits.segs_ok k) rfl ?_
  intro tvs blks res h
  simp only [ct_transomlaw09_SchemaFits] at h
  split at h
  · exact (transomlaw09_SchemaFits.ev.trans transomlaw09_SchemaFits.c_bind).trans h
  · simp at h
end Go.Proofs.YtddlebbjaadbeaaGreatDoor.Aev
