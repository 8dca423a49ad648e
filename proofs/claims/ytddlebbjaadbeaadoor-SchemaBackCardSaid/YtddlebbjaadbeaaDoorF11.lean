/- By a program of this session (AEV): functions of the program as plain functions, and that the machine does what they say. -/
import Derived.Test.YtddlebbjaadbeaaDoorTys
import Derived.Test.YtddlebbjaadbeaaDoorProg
import Derived.Laws.Externs
import Derived.Lib.Bytealg
import Derived.Test.YtddlebbjaadbeaaDoorF2
import Derived.Test.YtddlebbjaadbeaaDoorF4
import Derived.Test.YtddlebbjaadbeaaDoorF6
import Derived.Test.YtddlebbjaadbeaaDoorF10
namespace Go.Proofs.YtddlebbjaadbeaaDoor.Aev
set_option linter.unusedVariables false
set_option linter.unusedSimpArgs false
set_option maxRecDepth 100000
set_option maxHeartbeats 4000000
open Go
/-! ### schema_Fits: function 24 -/
abbrev G_schema_Fits : Type := ByteArray → Int → (List D_api_Col) → (List D_api_Value) → Option Int
def ct_schema_Fits (g : G_schema_Fits) : Ct where
  nin := 0
  mv := []
  F := fun tvs blks {β} K => match tvs, blks with
    | [.v (.agg [(.d .str a0), (.d (.int .i64) a1), (.d (.sl (.pair .str (.pair (.int .i64) (.pair .bool (.pair (.pair (.int .i64) (.pair (.int .i64) (.pair (.int .u64) (.pair .str .unit)))) .unit))))) a2)]), .v (.one (.d (.sl (.pair (.int .i64) (.pair (.int .i64) (.pair (.int .u64) (.pair .str .unit))))) a3))], [] => (g a0 a1 a2 a3).bind fun r => K ⟨.v (.one (.d (.int .i64) r)), []⟩
    | _, _ => none
  legit := fun tvs blks K r h => by
    split at h
    · obtain ⟨x, hx, hk⟩ := Option.bind_eq_some_iff.1 h
      refine ⟨_, ?_, hk⟩
      simp only [hx, Option.bind_some]
    · simp at h
noncomputable def env_schema_Fits (g10 : G_schema_Check) (g47 : G_schema_fits)  : FEnv := { P := Go.Proofs.Tryd.prog, ct := fun m => if m = 10 then some (ct_schema_Check g10) else if m = 47 then some (ct_schema_fits g47) else none, N := 20, body := Go.Proofs.Tryd.f24.body.getD .skip, rvs := [.tmp 4], rts := [27], nin := 0, rmv := [], segs := [] }
def schema_Fits.c {β : Type} (g10 : G_schema_Check) (g47 : G_schema_fits)  (a0 : ByteArray) (a1 : Int) (a2 : List D_api_Col) (a3 : List D_api_Value) (ret : Int → Option β) : Option β := ((g10 a0 a1 a2).bind fun r0 => (bif (r0 != (0 : Int)) then (ret (r0)) else (bif (((List.length a3) : Int) != ((List.length a2) : Int)) then (ret ((11 : Int))) else ((g47 a0 a1 a2 a3).bind fun r1 => (ret (r1))))))
theorem schema_Fits.c_bind {β : Type} {g10 : G_schema_Check} {g47 : G_schema_fits}  {a0 : ByteArray} {a1 : Int} {a2 : List D_api_Col} {a3 : List D_api_Value} {ret : Int → Option β} : schema_Fits.c g10 g47  a0 a1 a2 a3 ret = (schema_Fits.c g10 g47  a0 a1 a2 a3 some).bind ret := by
  simp only [schema_Fits.c, bif_bind, sum_bind, Option.bind_assoc, Option.bind_some, Option.bind_none, Option.bind_fun_some]
theorem schema_Fits.ev {g10 : G_schema_Check} {g47 : G_schema_fits}  {a0 : ByteArray} {a1 : Int} {a2 : List D_api_Col} {a3 : List D_api_Value} : evAt (env_schema_Fits g10 g47 ) [] [0, 1] [.v (.agg [(.d .str a0), (.d (.int .i64) a1), (.d (.sl T_api_Col) a2)]), .v (.one (.d (.sl T_api_Value) a3))] [] some = schema_Fits.c g10 g47  a0 a1 a2 a3 (fun r => some ⟨.v (.one (.d (.int .i64) r)), []⟩) := by
  kernel_rfl
def schema_Fits.f (k : Nat) (a0 : ByteArray) (a1 : Int) (a2 : List D_api_Col) (a3 : List D_api_Value) : Option Int := schema_Fits.c (schema_Check.f k) (schema_fits.f k)  a0 a1 a2 a3 some
theorem schema_Fits.is {g10 : G_schema_Check} {g47 : G_schema_fits}  : FnIs (env_schema_Fits g10 g47 ) 24 Go.Proofs.Tryd.f24 := ⟨Go.Proofs.Tryd.func24, rfl, rfl, rfl, by decide⟩
theorem schema_Fits.envok {g10 : G_schema_Check} {g47 : G_schema_fits}  (h10 : CtOK Go.Proofs.Tryd.prog 10 (ct_schema_Check g10)) (h47 : CtOK Go.Proofs.Tryd.prog 47 (ct_schema_fits g47)) : EnvOK (env_schema_Fits g10 g47 ).toEnv := by
  intro f c h
  simp only [env_schema_Fits] at h
  split at h
  · rename_i e; subst e; cases h; exact h10
  split at h
  · rename_i e; subst e; cases h; exact h47
  simp at h
noncomputable abbrev schema_Fits.E (k : Nat) : FEnv := env_schema_Fits (schema_Check.f k) (schema_fits.f k) 
theorem schema_Fits.hE (k : Nat) : EnvOK (schema_Fits.E k).toEnv := schema_Fits.envok (schema_Check.ok k) (schema_fits.ok k)
theorem schema_Fits.ok (k : Nat) : CtOK Go.Proofs.Tryd.prog 24 (ct_schema_Fits (schema_Fits.f k)) := by
  refine ct_of_ev (E := schema_Fits.E k) schema_Fits.is (schema_Fits.hE k) (fun s hs => by simp [schema_Fits.E, env_schema_Fits] at hs) rfl ?_
  intro tvs blks res h
  simp only [ct_schema_Fits] at h
  split at h
  · exact (schema_Fits.ev.trans schema_Fits.c_bind).trans h
  · simp at h

/-! ### schema_Key: function 19 -/
abbrev G_schema_Key : Type := ByteArray → Int → (List D_api_Col) → (List D_api_Value) → Option (ByteArray × Int)
def ct_schema_Key (g : G_schema_Key) : Ct where
  nin := 0
  mv := []
  F := fun tvs blks {β} K => match tvs, blks with
    | [.v (.agg [(.d .str a0), (.d (.int .i64) a1), (.d (.sl (.pair .str (.pair (.int .i64) (.pair .bool (.pair (.pair (.int .i64) (.pair (.int .i64) (.pair (.int .u64) (.pair .str .unit)))) .unit))))) a2)]), .v (.one (.d (.sl (.pair (.int .i64) (.pair (.int .i64) (.pair (.int .u64) (.pair .str .unit))))) a3))], [] => (g a0 a1 a2 a3).bind fun r => K ⟨.tup [(.one (.d .str r.1)), (.one (.d (.int .i64) r.2))], []⟩
    | _, _ => none
  legit := fun tvs blks K r h => by
    split at h
    · obtain ⟨x, hx, hk⟩ := Option.bind_eq_some_iff.1 h
      refine ⟨_, ?_, hk⟩
      simp only [hx, Option.bind_some]
    · simp at h
noncomputable def env_schema_Key (g20 : G_keycode_Row) (g24 : G_schema_Fits)  : FEnv := { P := Go.Proofs.Tryd.prog, ct := fun m => if m = 20 then some (ct_keycode_Row g20) else if m = 24 then some (ct_schema_Fits g24) else none, N := 20, body := Go.Proofs.Tryd.f19.body.getD .skip, rvs := [.tmp 4, .tmp 5], rts := [9, 27], nin := 0, rmv := [], segs := [] }
def schema_Key.c {β : Type} (g20 : G_keycode_Row) (g24 : G_schema_Fits)  (a0 : ByteArray) (a1 : Int) (a2 : List D_api_Col) (a3 : List D_api_Value) (ret : (ByteArray × Int) → Option β) : Option β := ((g24 a0 a1 a2 a3).bind fun r0 => (bif (r0 != (0 : Int)) then (ret ((ByteArray.mk (List.toArray [])), r0)) else (bif ((true && (decide ((0 : Int) ≤ a1))) && (decide (a1 ≤ ((List.length a3) : Int)))) then ((g20 (List.take ((Int.toNat a1) - (0 : Nat)) (List.drop (0 : Nat) a3))).bind fun r1 => (ret (r1.1, r1.2))) else none)))
theorem schema_Key.c_bind {β : Type} {g20 : G_keycode_Row} {g24 : G_schema_Fits}  {a0 : ByteArray} {a1 : Int} {a2 : List D_api_Col} {a3 : List D_api_Value} {ret : (ByteArray × Int) → Option β} : schema_Key.c g20 g24  a0 a1 a2 a3 ret = (schema_Key.c g20 g24  a0 a1 a2 a3 some).bind ret := by
  simp only [schema_Key.c, bif_bind, sum_bind, Option.bind_assoc, Option.bind_some, Option.bind_none, Option.bind_fun_some]
theorem schema_Key.ev {g20 : G_keycode_Row} {g24 : G_schema_Fits}  {a0 : ByteArray} {a1 : Int} {a2 : List D_api_Col} {a3 : List D_api_Value} : evAt (env_schema_Key g20 g24 ) [] [0, 1] [.v (.agg [(.d .str a0), (.d (.int .i64) a1), (.d (.sl T_api_Col) a2)]), .v (.one (.d (.sl T_api_Value) a3))] [] some = schema_Key.c g20 g24  a0 a1 a2 a3 (fun r => some ⟨.tup [(.one (.d .str r.1)), (.one (.d (.int .i64) r.2))], []⟩) := by
  kernel_rfl
def schema_Key.f (k : Nat) (a0 : ByteArray) (a1 : Int) (a2 : List D_api_Col) (a3 : List D_api_Value) : Option (ByteArray × Int) := schema_Key.c (keycode_Row.f k) (schema_Fits.f k)  a0 a1 a2 a3 some
theorem schema_Key.is {g20 : G_keycode_Row} {g24 : G_schema_Fits}  : FnIs (env_schema_Key g20 g24 ) 19 Go.Proofs.Tryd.f19 := ⟨Go.Proofs.Tryd.func19, rfl, rfl, rfl, by decide⟩
theorem schema_Key.envok {g20 : G_keycode_Row} {g24 : G_schema_Fits}  (h20 : CtOK Go.Proofs.Tryd.prog 20 (ct_keycode_Row g20)) (h24 : CtOK Go.Proofs.Tryd.prog 24 (ct_schema_Fits g24)) : EnvOK (env_schema_Key g20 g24 ).toEnv := by
  intro f c h
  simp only [env_schema_Key] at h
  split at h
  · rename_i e; subst e; cases h; exact h20
  split at h
  · rename_i e; subst e; cases h; exact h24
  simp at h
noncomputable abbrev schema_Key.E (k : Nat) : FEnv := env_schema_Key (keycode_Row.f k) (schema_Fits.f k) 
theorem schema_Key.hE (k : Nat) : EnvOK (schema_Key.E k).toEnv := schema_Key.envok (keycode_Row.ok k) (schema_Fits.ok k)
theorem schema_Key.ok (k : Nat) : CtOK Go.Proofs.Tryd.prog 19 (ct_schema_Key (schema_Key.f k)) := by
  refine ct_of_ev (E := schema_Key.E k) schema_Key.is (schema_Key.hE k) (fun s hs => by simp [schema_Key.E, env_schema_Key] at hs) rfl ?_
  intro tvs blks res h
  simp only [ct_schema_Key] at h
  split at h
  · exact (schema_Key.ev.trans schema_Key.c_bind).trans h
  · simp at h

/-! ### schema_FitsKey: function 21 -/
abbrev G_schema_FitsKey : Type := ByteArray → Int → (List D_api_Col) → (List D_api_Value) → Bool → Option Int
def ct_schema_FitsKey (g : G_schema_FitsKey) : Ct where
  nin := 0
  mv := []
  F := fun tvs blks {β} K => match tvs, blks with
    | [.v (.agg [(.d .str a0), (.d (.int .i64) a1), (.d (.sl (.pair .str (.pair (.int .i64) (.pair .bool (.pair (.pair (.int .i64) (.pair (.int .i64) (.pair (.int .u64) (.pair .str .unit)))) .unit))))) a2)]), .v (.one (.d (.sl (.pair (.int .i64) (.pair (.int .i64) (.pair (.int .u64) (.pair .str .unit))))) a3)), .v (.one (.d .bool a4))], [] => (g a0 a1 a2 a3 a4).bind fun r => K ⟨.v (.one (.d (.int .i64) r)), []⟩
    | _, _ => none
  legit := fun tvs blks K r h => by
    split at h
    · obtain ⟨x, hx, hk⟩ := Option.bind_eq_some_iff.1 h
      refine ⟨_, ?_, hk⟩
      simp only [hx, Option.bind_some]
    · simp at h
noncomputable def env_schema_FitsKey (g10 : G_schema_Check) (g47 : G_schema_fits)  : FEnv := { P := Go.Proofs.Tryd.prog, ct := fun m => if m = 10 then some (ct_schema_Check g10) else if m = 47 then some (ct_schema_fits g47) else none, N := 32, body := Go.Proofs.Tryd.f21.body.getD .skip, rvs := [.tmp 6], rts := [27], nin := 0, rmv := [], segs := [] }
def schema_FitsKey.c {β : Type} (g10 : G_schema_Check) (g47 : G_schema_fits)  (a0 : ByteArray) (a1 : Int) (a2 : List D_api_Col) (a3 : List D_api_Value) (a4 : Bool) (ret : Int → Option β) : Option β := ((g10 a0 a1 a2).bind fun r0 => (bif (r0 != (0 : Int)) then (ret (r0)) else (bif (decide (((List.length a3) : Int) > a1)) then (ret ((11 : Int))) else (bif a4 then (bif (decide (((List.length a3) : Int) < a1)) then (ret ((11 : Int))) else ((g47 a0 a1 a2 a3).bind fun r1 => (ret (r1)))) else ((g47 a0 a1 a2 a3).bind fun r2 => (ret (r2)))))))
theorem schema_FitsKey.c_bind {β : Type} {g10 : G_schema_Check} {g47 : G_schema_fits}  {a0 : ByteArray} {a1 : Int} {a2 : List D_api_Col} {a3 : List D_api_Value} {a4 : Bool} {ret : Int → Option β} : schema_FitsKey.c g10 g47  a0 a1 a2 a3 a4 ret = (schema_FitsKey.c g10 g47  a0 a1 a2 a3 a4 some).bind ret := by
  simp only [schema_FitsKey.c, bif_bind, sum_bind, Option.bind_assoc, Option.bind_some, Option.bind_none, Option.bind_fun_some]
theorem schema_FitsKey.ev {g10 : G_schema_Check} {g47 : G_schema_fits}  {a0 : ByteArray} {a1 : Int} {a2 : List D_api_Col} {a3 : List D_api_Value} {a4 : Bool} : evAt (env_schema_FitsKey g10 g47 ) [] [0, 1, 2] [.v (.agg [(.d .str a0), (.d (.int .i64) a1), (.d (.sl T_api_Col) a2)]), .v (.one (.d (.sl T_api_Value) a3)), .v (.one (.d .bool a4))] [] some = schema_FitsKey.c g10 g47  a0 a1 a2 a3 a4 (fun r => some ⟨.v (.one (.d (.int .i64) r)), []⟩) := by
  kernel_rfl
def schema_FitsKey.f (k : Nat) (a0 : ByteArray) (a1 : Int) (a2 : List D_api_Col) (a3 : List D_api_Value) (a4 : Bool) : Option Int := schema_FitsKey.c (schema_Check.f k) (schema_fits.f k)  a0 a1 a2 a3 a4 some
theorem schema_FitsKey.is {g10 : G_schema_Check} {g47 : G_schema_fits}  : FnIs (env_schema_FitsKey g10 g47 ) 21 Go.Proofs.Tryd.f21 := ⟨Go.Proofs.Tryd.func21, rfl, rfl, rfl, by decide⟩
theorem schema_FitsKey.envok {g10 : G_schema_Check} {g47 : G_schema_fits}  (h10 : CtOK Go.Proofs.Tryd.prog 10 (ct_schema_Check g10)) (h47 : CtOK Go.Proofs.Tryd.prog 47 (ct_schema_fits g47)) : EnvOK (env_schema_FitsKey g10 g47 ).toEnv := by
  intro f c h
  simp only [env_schema_FitsKey] at h
  split at h
  · rename_i e; subst e; cases h; exact h10
  split at h
  · rename_i e; subst e; cases h; exact h47
  simp at h
noncomputable abbrev schema_FitsKey.E (k : Nat) : FEnv := env_schema_FitsKey (schema_Check.f k) (schema_fits.f k) 
theorem schema_FitsKey.hE (k : Nat) : EnvOK (schema_FitsKey.E k).toEnv := schema_FitsKey.envok (schema_Check.ok k) (schema_fits.ok k)
theorem schema_FitsKey.ok (k : Nat) : CtOK Go.Proofs.Tryd.prog 21 (ct_schema_FitsKey (schema_FitsKey.f k)) := by
  refine ct_of_ev (E := schema_FitsKey.E k) schema_FitsKey.is (schema_FitsKey.hE k) (fun s hs => by simp [schema_FitsKey.E, env_schema_FitsKey] at hs) rfl ?_
  intro tvs blks res h
  simp only [ct_schema_FitsKey] at h
  split at h
  · exact (schema_FitsKey.ev.trans schema_FitsKey.c_bind).trans h
  · simp at h

/-! ### transomlaw09_Plain: function 23 -/
abbrev G_transomlaw09_Plain : Type := Option (ByteArray × Int × (List D_api_Col))
def ct_transomlaw09_Plain (g : G_transomlaw09_Plain) : Ct where
  nin := 0
  mv := []
  F := fun tvs blks {β} K => match tvs, blks with
    | [], [] => (g ).bind fun r => K ⟨.v (.agg [(.d .str r.1), (.d (.int .i64) r.2.1), (.own 0)]), [some (.own T_api_Col true r.2.2)]⟩
    | _, _ => none
  legit := fun tvs blks K r h => by
    split at h
    · obtain ⟨x, hx, hk⟩ := Option.bind_eq_some_iff.1 h
      refine ⟨_, ?_, hk⟩
      simp only [hx, Option.bind_some]
    · simp at h
noncomputable def env_transomlaw09_Plain   : FEnv := { P := Go.Proofs.Tryd.prog, ct := fun m => none, N := 5, body := Go.Proofs.Tryd.f23.body.getD .skip, rvs := [.cell 0 24], rts := [24], nin := 0, rmv := [0], segs := [] }
def transomlaw09_Plain.c {β : Type}    (ret : (ByteArray × Int × (List D_api_Col)) → Option β) : Option β := (ret ((ByteArray.mk (List.toArray [(116 : UInt8)])), (1 : Int), [((ByteArray.mk (List.toArray [(107 : UInt8)])), ((2 : Int), (false, (((0 : Int), ((0 : Int), ((0 : Int), ((ByteArray.mk (List.toArray [])), ())))), ())))), ((ByteArray.mk (List.toArray [(118 : UInt8)])), ((5 : Int), (true, (((0 : Int), ((0 : Int), ((0 : Int), ((ByteArray.mk (List.toArray [])), ())))), ()))))]))
theorem transomlaw09_Plain.c_bind {β : Type}    {ret : (ByteArray × Int × (List D_api_Col)) → Option β} : transomlaw09_Plain.c    ret = (transomlaw09_Plain.c    some).bind ret := by
  simp only [transomlaw09_Plain.c, bif_bind, sum_bind, Option.bind_assoc, Option.bind_some, Option.bind_none, Option.bind_fun_some]
theorem transomlaw09_Plain.ev    : evAt (env_transomlaw09_Plain  ) [] [] [] [] some = transomlaw09_Plain.c    (fun r => some ⟨.v (.agg [(.d .str r.1), (.d (.int .i64) r.2.1), (.own 0)]), [some (.own T_api_Col true r.2.2)]⟩) := by
  kernel_rfl
def transomlaw09_Plain.f (k : Nat)  : Option (ByteArray × Int × (List D_api_Col)) := transomlaw09_Plain.c    some
theorem transomlaw09_Plain.is   : FnIs (env_transomlaw09_Plain  ) 23 Go.Proofs.Tryd.f23 := ⟨Go.Proofs.Tryd.func23, rfl, rfl, rfl, by decide⟩
theorem transomlaw09_Plain.envok    : EnvOK (env_transomlaw09_Plain  ).toEnv := by
  intro f c h
  simp only [env_transomlaw09_Plain] at h
  simp at h
noncomputable abbrev transomlaw09_Plain.E (k : Nat) : FEnv := env_transomlaw09_Plain  
theorem transomlaw09_Plain.hE (k : Nat) : EnvOK (transomlaw09_Plain.E k).toEnv := transomlaw09_Plain.envok 
theorem transomlaw09_Plain.ok (k : Nat) : CtOK Go.Proofs.Tryd.prog 23 (ct_transomlaw09_Plain (transomlaw09_Plain.f k)) := by
  refine ct_of_ev (E := transomlaw09_Plain.E k) transomlaw09_Plain.is (transomlaw09_Plain.hE k) (fun s hs => by simp [transomlaw09_Plain.E, env_transomlaw09_Plain] at hs) rfl ?_
  intro tvs blks res h
  simp only [ct_transomlaw09_Plain] at h
  split at h
  · exact (transomlaw09_Plain.ev.trans transomlaw09_Plain.c_bind).trans h
  · simp at h

/-! ### transomlaw09_awake: function 7 -/
abbrev G_transomlaw09_awake : Type := Option Bool
def ct_transomlaw09_awake (g : G_transomlaw09_awake) : Ct where
  nin := 0
  mv := []
  F := fun tvs blks {β} K => match tvs, blks with
    | [], [] => (g ).bind fun r => K ⟨.v (.one (.d .bool r)), []⟩
    | _, _ => none
  legit := fun tvs blks K r h => by
    split at h
    · obtain ⟨x, hx, hk⟩ := Option.bind_eq_some_iff.1 h
      refine ⟨_, ?_, hk⟩
      simp only [hx, Option.bind_some]
    · simp at h
noncomputable def env_transomlaw09_awake (g8 : G_schema_CheckCol) (g10 : G_schema_Check) (g12 : G_schema_Find) (g14 : G_schema_Put) (g15 : G_schema_Read) (g17 : G_schema_Same) (g19 : G_schema_Key) (g21 : G_schema_FitsKey) (g23 : G_transomlaw09_Plain) (g24 : G_schema_Fits)  : FEnv := { P := Go.Proofs.Tryd.prog, ct := fun m => if m = 8 then some (ct_schema_CheckCol g8) else if m = 10 then some (ct_schema_Check g10) else if m = 12 then some (ct_schema_Find g12) else if m = 14 then some (ct_schema_Put g14) else if m = 15 then some (ct_schema_Read g15) else if m = 17 then some (ct_schema_Same g17) else if m = 19 then some (ct_schema_Key g19) else if m = 21 then some (ct_schema_FitsKey g21) else if m = 23 then some (ct_transomlaw09_Plain g23) else if m = 24 then some (ct_schema_Fits g24) else none, N := 93, body := Go.Proofs.Tryd.f7.body.getD .skip, rvs := [.tmp 0], rts := [4], nin := 0, rmv := [], segs := [] }
def transomlaw09_awake.c {β : Type} (g8 : G_schema_CheckCol) (g10 : G_schema_Check) (g12 : G_schema_Find) (g14 : G_schema_Put) (g15 : G_schema_Read) (g17 : G_schema_Same) (g19 : G_schema_Key) (g21 : G_schema_FitsKey) (g23 : G_transomlaw09_Plain) (g24 : G_schema_Fits)   (ret : Bool → Option β) : Option β := (g23.bind fun r0 => ((g19 r0.1 r0.2.1 r0.2.2 [((2 : Int), ((1 : Int), ((0 : Int), ((ByteArray.mk (List.toArray [])), ())))), ((0 : Int), ((0 : Int), ((0 : Int), ((ByteArray.mk (List.toArray [])), ()))))]).bind fun r1 => ((g14 r0.1 r0.2.1 r0.2.2).bind fun r2 => (bif ((decide ((ByteArray.size r2.1) ≤ (4611686018427387903 : Nat))) && true) then ((g15 (r2.1 ++ (ByteArray.mk (List.toArray [(122 : UInt8)])))).bind fun r3 => (bif (true && (decide ((0 : Int) < ((List.length r0.2.2) : Int)))) then (bif (((ByteArray.size r1.1) : Int) == (9 : Int)) then (bif (r1.2 == (0 : Int)) then (bif (r2.2 == (0 : Int)) then (g23.bind fun r4 => ((g17 r3.1 r3.2.1 r3.2.2.1 r4.1 r4.2.1 r4.2.2).bind fun r5 => (bif r5 then (bif ((ByteArray.toList r3.2.2.2.1) == (ByteArray.toList (ByteArray.mk (List.toArray [(122 : UInt8)])))) then (bif (r3.2.2.2.2 == (0 : Int)) then ((g10 r0.1 r0.2.1 (List.set r0.2.2 (0 : Nat) ((elem T_api_Col r0.2.2 (0 : Int)).1, ((elem T_api_Col r0.2.2 (0 : Int)).2.1, (true, (((elem T_api_Col r0.2.2 (0 : Int)).2.2.2.1.1, ((elem T_api_Col r0.2.2 (0 : Int)).2.2.2.1.2.1, ((elem T_api_Col r0.2.2 (0 : Int)).2.2.2.1.2.2.1, ((elem T_api_Col r0.2.2 (0 : Int)).2.2.2.1.2.2.2.1, ())))), ())))))).bind fun r6 => (bif (r6 == (11 : Int)) then ((g24 r3.1 r3.2.1 r3.2.2.1 [((0 : Int), ((0 : Int), ((0 : Int), ((ByteArray.mk (List.toArray [])), ())))), ((0 : Int), ((0 : Int), ((0 : Int), ((ByteArray.mk (List.toArray [])), ()))))]).bind fun r7 => (bif (r7 == (11 : Int)) then ((g21 r3.1 r3.2.1 r3.2.2.1 [] false).bind fun r8 => (bif (r8 == (0 : Int)) then ((g21 r3.1 r3.2.1 r3.2.2.1 [] true).bind fun r9 => (bif (r9 == (11 : Int)) then ((g12 r3.1 r3.2.1 r3.2.2.1 (ByteArray.mk (List.toArray [(118 : UInt8)]))).bind fun r10 => (bif (r10 == (1 : Int)) then ((g8 (ByteArray.mk (List.toArray [(97 : UInt8)])) (6 : Int) false (0 : Int) (0 : Int) (0 : Int) (ByteArray.mk (List.toArray []))).bind fun r11 => (ret ((r11 == (5 : Int))))) else (ret (false)))) else (ret (false)))) else (ret (false)))) else (ret (false)))) else (ret (false)))) else (ret (false))) else (ret (false))) else (ret (false))))) else (ret (false))) else (ret (false))) else (ret (false))) else none)) else none))))
theorem transomlaw09_awake.c_bind {β : Type} {g8 : G_schema_CheckCol} {g10 : G_schema_Check} {g12 : G_schema_Find} {g14 : G_schema_Put} {g15 : G_schema_Read} {g17 : G_schema_Same} {g19 : G_schema_Key} {g21 : G_schema_FitsKey} {g23 : G_transomlaw09_Plain} {g24 : G_schema_Fits}   {ret : Bool → Option β} : transomlaw09_awake.c g8 g10 g12 g14 g15 g17 g19 g21 g23 g24   ret = (transomlaw09_awake.c g8 g10 g12 g14 g15 g17 g19 g21 g23 g24   some).bind ret := by
  simp only [transomlaw09_awake.c, bif_bind, sum_bind, Option.bind_assoc, Option.bind_some, Option.bind_none, Option.bind_fun_some]
theorem transomlaw09_awake.ev {g8 : G_schema_CheckCol} {g10 : G_schema_Check} {g12 : G_schema_Find} {g14 : G_schema_Put} {g15 : G_schema_Read} {g17 : G_schema_Same} {g19 : G_schema_Key} {g21 : G_schema_FitsKey} {g23 : G_transomlaw09_Plain} {g24 : G_schema_Fits}   : evAt (env_transomlaw09_awake g8 g10 g12 g14 g15 g17 g19 g21 g23 g24 ) [] [] [] [] some = transomlaw09_awake.c g8 g10 g12 g14 g15 g17 g19 g21 g23 g24   (fun r => some ⟨.v (.one (.d .bool r)), []⟩) := by
  kernel_rfl
def transomlaw09_awake.f (k : Nat)  : Option Bool := transomlaw09_awake.c (schema_CheckCol.f k) (schema_Check.f k) (schema_Find.f k) (schema_Put.f k) (schema_Read.f k) (schema_Same.f k) (schema_Key.f k) (schema_FitsKey.f k) (transomlaw09_Plain.f k) (schema_Fits.f k)   some
theorem transomlaw09_awake.is {g8 : G_schema_CheckCol} {g10 : G_schema_Check} {g12 : G_schema_Find} {g14 : G_schema_Put} {g15 : G_schema_Read} {g17 : G_schema_Same} {g19 : G_schema_Key} {g21 : G_schema_FitsKey} {g23 : G_transomlaw09_Plain} {g24 : G_schema_Fits}  : FnIs (env_transomlaw09_awake g8 g10 g12 g14 g15 g17 g19 g21 g23 g24 ) 7 Go.Proofs.Tryd.f7 := ⟨Go.Proofs.Tryd.func7, rfl, rfl, rfl, by decide⟩
theorem transomlaw09_awake.envok {g8 : G_schema_CheckCol} {g10 : G_schema_Check} {g12 : G_schema_Find} {g14 : G_schema_Put} {g15 : G_schema_Read} {g17 : G_schema_Same} {g19 : G_schema_Key} {g21 : G_schema_FitsKey} {g23 : G_transomlaw09_Plain} {g24 : G_schema_Fits}  (h8 : CtOK Go.Proofs.Tryd.prog 8 (ct_schema_CheckCol g8)) (h10 : CtOK Go.Proofs.Tryd.prog 10 (ct_schema_Check g10)) (h12 : CtOK Go.Proofs.Tryd.prog 12 (ct_schema_Find g12)) (h14 : CtOK Go.Proofs.Tryd.prog 14 (ct_schema_Put g14)) (h15 : CtOK Go.Proofs.Tryd.prog 15 (ct_schema_Read g15)) (h17 : CtOK Go.Proofs.Tryd.prog 17 (ct_schema_Same g17)) (h19 : CtOK Go.Proofs.Tryd.prog 19 (ct_schema_Key g19)) (h21 : CtOK Go.Proofs.Tryd.prog 21 (ct_schema_FitsKey g21)) (h23 : CtOK Go.Proofs.Tryd.prog 23 (ct_transomlaw09_Plain g23)) (h24 : CtOK Go.Proofs.Tryd.prog 24 (ct_schema_Fits g24)) : EnvOK (env_transomlaw09_awake g8 g10 g12 g14 g15 g17 g19 g21 g23 g24 ).toEnv := by
  intro f c h
  simp only [env_transomlaw09_awake] at h
  split at h
  · rename_i e; subst e; cases h; exact h8
  split at h
  · rename_i e; subst e; cases h; exact h10
  split at h
  · rename_i e; subst e; cases h; exact h12
  split at h
  · rename_i e; subst e; cases h; exact h14
  split at h
  · rename_i e; subst e; cases h; exact h15
  split at h
  · rename_i e; subst e; cases h; exact h17
  split at h
  · rename_i e; subst e; cases h; exact h19
  split at h
  · rename_i e; subst e; cases h; exact h21
  split at h
  · rename_i e; subst e; cases h; exact h23
  split at h
  · rename_i e; subst e; cases h; exact h24
  simp at h
noncomputable abbrev transomlaw09_awake.E (k : Nat) : FEnv := env_transomlaw09_awake (schema_CheckCol.f k) (schema_Check.f k) (schema_Find.f k) (schema_Put.f k) (schema_Read.f k) (schema_Same.f k) (schema_Key.f k) (schema_FitsKey.f k) (transomlaw09_Plain.f k) (schema_Fits.f k) 
theorem transomlaw09_awake.hE (k : Nat) : EnvOK (transomlaw09_awake.E k).toEnv := transomlaw09_awake.envok (schema_CheckCol.ok k) (schema_Check.ok k) (schema_Find.ok k) (schema_Put.ok k) (schema_Read.ok k) (schema_Same.ok k) (schema_Key.ok k) (schema_FitsKey.ok k) (transomlaw09_Plain.ok k) (schema_Fits.ok k)
theorem transomlaw09_awake.ok (k : Nat) : CtOK Go.Proofs.Tryd.prog 7 (ct_transomlaw09_awake (transomlaw09_awake.f k)) := by
  refine ct_of_ev (E := transomlaw09_awake.E k) transomlaw09_awake.is (transomlaw09_awake.hE k) (fun s hs => by simp [transomlaw09_awake.E, env_transomlaw09_awake] at hs) rfl ?_
  intro tvs blks res h
  simp only [ct_transomlaw09_awake] at h
  split at h
  · exact (transomlaw09_awake.ev.trans transomlaw09_awake.c_bind).trans h
  · simp at h

/-! ### transomref04_Same: function 79 -/
abbrev G_transomref04_Same : Type := Int → Int → Int → ByteArray → Int → Int → Int → ByteArray → Option Bool
def ct_transomref04_Same (g : G_transomref04_Same) : Ct where
  nin := 0
  mv := []
  F := fun tvs blks {β} K => match tvs, blks with
    | [.v (.agg [(.d (.int .i64) a0), (.d (.int .i64) a1), (.d (.int .u64) a2), (.d .str a3)]), .v (.agg [(.d (.int .i64) a4), (.d (.int .i64) a5), (.d (.int .u64) a6), (.d .str a7)])], [] => (g a0 a1 a2 a3 a4 a5 a6 a7).bind fun r => K ⟨.v (.one (.d .bool r)), []⟩
    | _, _ => none
  legit := fun tvs blks K r h => by
    split at h
    · obtain ⟨x, hx, hk⟩ := Option.bind_eq_some_iff.1 h
      refine ⟨_, ?_, hk⟩
      simp only [hx, Option.bind_some]
    · simp at h
noncomputable def env_transomref04_Same   : FEnv := { P := Go.Proofs.Tryd.prog, ct := fun m => none, N := 31, body := Go.Proofs.Tryd.f79.body.getD .skip, rvs := [.tmp 4], rts := [4], nin := 0, rmv := [], segs := [] }
def transomref04_Same.c {β : Type}   (a0 : Int) (a1 : Int) (a2 : Int) (a3 : ByteArray) (a4 : Int) (a5 : Int) (a6 : Int) (a7 : ByteArray) (ret : Bool → Option β) : Option β := (bif (a0 == a4) then (bif (a1 == a5) then (bif (a2 == a6) then (ret (((ByteArray.toList a3) == (ByteArray.toList a7)))) else (ret (false))) else (ret (false))) else (ret (false)))
theorem transomref04_Same.c_bind {β : Type}   {a0 : Int} {a1 : Int} {a2 : Int} {a3 : ByteArray} {a4 : Int} {a5 : Int} {a6 : Int} {a7 : ByteArray} {ret : Bool → Option β} : transomref04_Same.c   a0 a1 a2 a3 a4 a5 a6 a7 ret = (transomref04_Same.c   a0 a1 a2 a3 a4 a5 a6 a7 some).bind ret := by
  simp only [transomref04_Same.c, bif_bind, sum_bind, Option.bind_assoc, Option.bind_some, Option.bind_none, Option.bind_fun_some]
theorem transomref04_Same.ev   {a0 : Int} {a1 : Int} {a2 : Int} {a3 : ByteArray} {a4 : Int} {a5 : Int} {a6 : Int} {a7 : ByteArray} : evAt (env_transomref04_Same  ) [] [0, 1] [.v (.agg [(.d (.int .i64) a0), (.d (.int .i64) a1), (.d (.int .u64) a2), (.d .str a3)]), .v (.agg [(.d (.int .i64) a4), (.d (.int .i64) a5), (.d (.int .u64) a6), (.d .str a7)])] [] some = transomref04_Same.c   a0 a1 a2 a3 a4 a5 a6 a7 (fun r => some ⟨.v (.one (.d .bool r)), []⟩) := by
  kernel_rfl
def transomref04_Same.f (k : Nat) (a0 : Int) (a1 : Int) (a2 : Int) (a3 : ByteArray) (a4 : Int) (a5 : Int) (a6 : Int) (a7 : ByteArray) : Option Bool := transomref04_Same.c   a0 a1 a2 a3 a4 a5 a6 a7 some
theorem transomref04_Same.is   : FnIs (env_transomref04_Same  ) 79 Go.Proofs.Tryd.f79 := ⟨Go.Proofs.Tryd.func79, rfl, rfl, rfl, by decide⟩
theorem transomref04_Same.envok    : EnvOK (env_transomref04_Same  ).toEnv := by
  intro f c h
  simp only [env_transomref04_Same] at h
  simp at h
noncomputable abbrev transomref04_Same.E (k : Nat) : FEnv := env_transomref04_Same  
theorem transomref04_Same.hE (k : Nat) : EnvOK (transomref04_Same.E k).toEnv := transomref04_Same.envok 
theorem transomref04_Same.ok (k : Nat) : CtOK Go.Proofs.Tryd.prog 79 (ct_transomref04_Same (transomref04_Same.f k)) := by
  refine ct_of_ev (E := transomref04_Same.E k) transomref04_Same.is (transomref04_Same.hE k) (fun s hs => by simp [transomref04_Same.E, env_transomref04_Same] at hs) rfl ?_
  intro tvs blks res h
  simp only [ct_transomref04_Same] at h
  split at h
  · exact (transomref04_Same.ev.trans transomref04_Same.c_bind).trans h
  · simp at h

/-! ### transomref09_SameCol: function 60 -/
abbrev G_transomref09_SameCol : Type := ByteArray → Int → Bool → Int → Int → Int → ByteArray → ByteArray → Int → Bool → Int → Int → Int → ByteArray → Option Bool
def ct_transomref09_SameCol (g : G_transomref09_SameCol) : Ct where
  nin := 0
  mv := []
  F := fun tvs blks {β} K => match tvs, blks with
    | [.v (.agg [(.d .str a0), (.d (.int .i64) a1), (.d .bool a2), (.d (.int .i64) a3), (.d (.int .i64) a4), (.d (.int .u64) a5), (.d .str a6)]), .v (.agg [(.d .str a7), (.d (.int .i64) a8), (.d .bool a9), (.d (.int .i64) a10), (.d (.int .i64) a11), (.d (.int .u64) a12), (.d .str a13)])], [] => (g a0 a1 a2 a3 a4 a5 a6 a7 a8 a9 a10 a11 a12 a13).bind fun r => K ⟨.v (.one (.d .bool r)), []⟩
    | _, _ => none
  legit := fun tvs blks K r h => by
    split at h
    · obtain ⟨x, hx, hk⟩ := Option.bind_eq_some_iff.1 h
      refine ⟨_, ?_, hk⟩
      simp only [hx, Option.bind_some]
    · simp at h
noncomputable def env_transomref09_SameCol (g79 : G_transomref04_Same)  : FEnv := { P := Go.Proofs.Tryd.prog, ct := fun m => if m = 79 then some (ct_transomref04_Same g79) else none, N := 31, body := Go.Proofs.Tryd.f60.body.getD .skip, rvs := [.tmp 4], rts := [4], nin := 0, rmv := [], segs := [] }
def transomref09_SameCol.c {β : Type} (g79 : G_transomref04_Same)  (a0 : ByteArray) (a1 : Int) (a2 : Bool) (a3 : Int) (a4 : Int) (a5 : Int) (a6 : ByteArray) (a7 : ByteArray) (a8 : Int) (a9 : Bool) (a10 : Int) (a11 : Int) (a12 : Int) (a13 : ByteArray) (ret : Bool → Option β) : Option β := (bif ((ByteArray.toList a0) == (ByteArray.toList a7)) then (bif (a1 == a8) then (bif (a2 == a9) then ((g79 a3 a4 a5 a6 a10 a11 a12 a13).bind fun r0 => (ret (r0))) else (ret (false))) else (ret (false))) else (ret (false)))
theorem transomref09_SameCol.c_bind {β : Type} {g79 : G_transomref04_Same}  {a0 : ByteArray} {a1 : Int} {a2 : Bool} {a3 : Int} {a4 : Int} {a5 : Int} {a6 : ByteArray} {a7 : ByteArray} {a8 : Int} {a9 : Bool} {a10 : Int} {a11 : Int} {a12 : Int} {a13 : ByteArray} {ret : Bool → Option β} : transomref09_SameCol.c g79  a0 a1 a2 a3 a4 a5 a6 a7 a8 a9 a10 a11 a12 a13 ret = (transomref09_SameCol.c g79  a0 a1 a2 a3 a4 a5 a6 a7 a8 a9 a10 a11 a12 a13 some).bind ret := by
  simp only [transomref09_SameCol.c, bif_bind, sum_bind, Option.bind_assoc, Option.bind_some, Option.bind_none, Option.bind_fun_some]
theorem transomref09_SameCol.ev {g79 : G_transomref04_Same}  {a0 : ByteArray} {a1 : Int} {a2 : Bool} {a3 : Int} {a4 : Int} {a5 : Int} {a6 : ByteArray} {a7 : ByteArray} {a8 : Int} {a9 : Bool} {a10 : Int} {a11 : Int} {a12 : Int} {a13 : ByteArray} : evAt (env_transomref09_SameCol g79 ) [] [0, 1] [.v (.agg [(.d .str a0), (.d (.int .i64) a1), (.d .bool a2), (.d (.int .i64) a3), (.d (.int .i64) a4), (.d (.int .u64) a5), (.d .str a6)]), .v (.agg [(.d .str a7), (.d (.int .i64) a8), (.d .bool a9), (.d (.int .i64) a10), (.d (.int .i64) a11), (.d (.int .u64) a12), (.d .str a13)])] [] some = transomref09_SameCol.c g79  a0 a1 a2 a3 a4 a5 a6 a7 a8 a9 a10 a11 a12 a13 (fun r => some ⟨.v (.one (.d .bool r)), []⟩) := by
  kernel_rfl
def transomref09_SameCol.f (k : Nat) (a0 : ByteArray) (a1 : Int) (a2 : Bool) (a3 : Int) (a4 : Int) (a5 : Int) (a6 : ByteArray) (a7 : ByteArray) (a8 : Int) (a9 : Bool) (a10 : Int) (a11 : Int) (a12 : Int) (a13 : ByteArray) : Option Bool := transomref09_SameCol.c (transomref04_Same.f k)  a0 a1 a2 a3 a4 a5 a6 a7 a8 a9 a10 a11 a12 a13 some
theorem transomref09_SameCol.is {g79 : G_transomref04_Same}  : FnIs (env_transomref09_SameCol g79 ) 60 Go.Proofs.Tryd.f60 := ⟨Go.Proofs.Tryd.func60, rfl, rfl, rfl, by decide⟩
theorem transomref09_SameCol.envok {g79 : G_transomref04_Same}  (h79 : CtOK Go.Proofs.Tryd.prog 79 (ct_transomref04_Same g79)) : EnvOK (env_transomref09_SameCol g79 ).toEnv := by
  intro f c h
  simp only [env_transomref09_SameCol] at h
  split at h
  · rename_i e; subst e; cases h; exact h79
  simp at h
noncomputable abbrev transomref09_SameCol.E (k : Nat) : FEnv := env_transomref09_SameCol (transomref04_Same.f k) 
theorem transomref09_SameCol.hE (k : Nat) : EnvOK (transomref09_SameCol.E k).toEnv := transomref09_SameCol.envok (transomref04_Same.ok k)
theorem transomref09_SameCol.ok (k : Nat) : CtOK Go.Proofs.Tryd.prog 60 (ct_transomref09_SameCol (transomref09_SameCol.f k)) := by
  refine ct_of_ev (E := transomref09_SameCol.E k) transomref09_SameCol.is (transomref09_SameCol.hE k) (fun s hs => by simp [transomref09_SameCol.E, env_transomref09_SameCol] at hs) rfl ?_
  intro tvs blks res h
  simp only [ct_transomref09_SameCol] at h
  split at h
  · exact (transomref09_SameCol.ev.trans transomref09_SameCol.c_bind).trans h
  · simp at h

/-! ### transomref09_SameCols: function 43 -/
abbrev G_transomref09_SameCols : Type := (List D_api_Col) → (List D_api_Col) → Option Bool
def ct_transomref09_SameCols (g : G_transomref09_SameCols) : Ct where
  nin := 0
  mv := []
  F := fun tvs blks {β} K => match tvs, blks with
    | [.v (.one (.d (.sl (.pair .str (.pair (.int .i64) (.pair .bool (.pair (.pair (.int .i64) (.pair (.int .i64) (.pair (.int .u64) (.pair .str .unit)))) .unit))))) a0)), .v (.one (.d (.sl (.pair .str (.pair (.int .i64) (.pair .bool (.pair (.pair (.int .i64) (.pair (.int .i64) (.pair (.int .u64) (.pair .str .unit)))) .unit))))) a1))], [] => (g a0 a1).bind fun r => K ⟨.v (.one (.d .bool r)), []⟩
    | _, _ => none
  legit := fun tvs blks K r h => by
    split at h
    · obtain ⟨x, hx, hk⟩ := Option.bind_eq_some_iff.1 h
      refine ⟨_, ?_, hk⟩
      simp only [hx, Option.bind_some]
    · simp at h
abbrev S_transomref09_SameCols_0 : Type := (List D_api_Col) → (List D_api_Col) → Int → Option Bool
def seg_transomref09_SameCols_0 (g : S_transomref09_SameCols_0) : Seg where
  path := [4, 1, 0, 1, 1]
  prep := []
  keep := [0, 1, 5]
  F := fun tvs blks {β} K => match tvs, blks with
    | [.v (.one (.d (.sl (.pair .str (.pair (.int .i64) (.pair .bool (.pair (.pair (.int .i64) (.pair (.int .i64) (.pair (.int .u64) (.pair .str .unit)))) .unit))))) x0)), .v (.one (.d (.sl (.pair .str (.pair (.int .i64) (.pair .bool (.pair (.pair (.int .i64) (.pair (.int .i64) (.pair (.int .u64) (.pair .str .unit)))) .unit))))) x1)), .v (.one (.d (.int .i64) x2))], [] => (g x0 x1 x2).bind fun r => K ⟨.v (.one (.d .bool r)), []⟩
    | _, _ => none
  legit := fun tvs blks K r h => by
    split at h
    · obtain ⟨x, hx, hk⟩ := Option.bind_eq_some_iff.1 h
      refine ⟨_, ?_, hk⟩
      simp only [hx, Option.bind_some]
    · simp at h
noncomputable def env_transomref09_SameCols (g60 : G_transomref09_SameCol) (s0 : S_transomref09_SameCols_0) : FEnv := { P := Go.Proofs.Tryd.prog, ct := fun m => if m = 60 then some (ct_transomref09_SameCol g60) else none, N := 27, body := Go.Proofs.Tryd.f43.body.getD .skip, rvs := [.tmp 4], rts := [4], nin := 0, rmv := [], segs := [seg_transomref09_SameCols_0 s0] }
def transomref09_SameCols.c {β : Type} (g60 : G_transomref09_SameCol) (s0 : S_transomref09_SameCols_0) (a0 : List D_api_Col) (a1 : List D_api_Col) (ret : Bool → Option β) : Option β := (bif (((List.length a0) : Int) != ((List.length a1) : Int)) then (ret (false)) else ((s0 a0 a1 (0 : Int)).bind ret))
def transomref09_SameCols.s0c {β : Type} (g60 : G_transomref09_SameCol) (s0 : S_transomref09_SameCols_0) (x0 : List D_api_Col) (x1 : List D_api_Col) (x2 : Int) (ret : Bool → Option β) : Option β := (bif (decide (x2 < ((List.length x0) : Int))) then (bif ((decide ((0 : Int) ≤ x2)) && (decide (x2 < ((List.length x0) : Int)))) then (bif ((decide ((0 : Int) ≤ x2)) && (decide (x2 < ((List.length x1) : Int)))) then ((g60 (elem T_api_Col x0 x2).1 (elem T_api_Col x0 x2).2.1 (elem T_api_Col x0 x2).2.2.1 (elem T_api_Col x0 x2).2.2.2.1.1 (elem T_api_Col x0 x2).2.2.2.1.2.1 (elem T_api_Col x0 x2).2.2.2.1.2.2.1 (elem T_api_Col x0 x2).2.2.2.1.2.2.2.1 (elem T_api_Col x1 x2).1 (elem T_api_Col x1 x2).2.1 (elem T_api_Col x1 x2).2.2.1 (elem T_api_Col x1 x2).2.2.2.1.1 (elem T_api_Col x1 x2).2.2.2.1.2.1 (elem T_api_Col x1 x2).2.2.2.1.2.2.1 (elem T_api_Col x1 x2).2.2.2.1.2.2.2.1).bind fun r0 => (bif (!r0) then (ret (false)) else ((s0 x0 x1 (IntKind.wrap IntKind.i64 (x2 + (1 : Int)))).bind ret))) else none) else none) else (ret (true)))
theorem transomref09_SameCols.c_bind {β : Type} {g60 : G_transomref09_SameCol} {s0 : S_transomref09_SameCols_0} {a0 : List D_api_Col} {a1 : List D_api_Col} {ret : Bool → Option β} : transomref09_SameCols.c g60 s0 a0 a1 ret = (transomref09_SameCols.c g60 s0 a0 a1 some).bind ret := by
  simp only [transomref09_SameCols.c, bif_bind, sum_bind, Option.bind_assoc, Option.bind_some, Option.bind_none, Option.bind_fun_some]
theorem transomref09_SameCols.s0c_bind {β : Type} {g60 : G_transomref09_SameCol} {s0 : S_transomref09_SameCols_0} {x0 : List D_api_Col} {x1 : List D_api_Col} {x2 : Int} {ret : Bool → Option β} : transomref09_SameCols.s0c g60 s0 x0 x1 x2 ret = (transomref09_SameCols.s0c g60 s0 x0 x1 x2 some).bind ret := by
  simp only [transomref09_SameCols.s0c, bif_bind, sum_bind, Option.bind_assoc, Option.bind_some, Option.bind_none, Option.bind_fun_some]
theorem transomref09_SameCols.ev {g60 : G_transomref09_SameCol} {s0 : S_transomref09_SameCols_0} {a0 : List D_api_Col} {a1 : List D_api_Col} : evAt (env_transomref09_SameCols g60 s0) [] [0, 1] [.v (.one (.d (.sl T_api_Col) a0)), .v (.one (.d (.sl T_api_Col) a1))] [] some = transomref09_SameCols.c g60 s0 a0 a1 (fun r => some ⟨.v (.one (.d .bool r)), []⟩) := by
  kernel_rfl
theorem transomref09_SameCols.s0_ev {g60 : G_transomref09_SameCol} {s0 : S_transomref09_SameCols_0} {x0 : List D_api_Col} {x1 : List D_api_Col} {x2 : Int} : evAt (env_transomref09_SameCols g60 s0) [4, 1, 0, 1, 1] [0, 1, 5] [.v (.one (.d (.sl T_api_Col) x0)), .v (.one (.d (.sl T_api_Col) x1)), .v (.one (.d (.int .i64) x2))] [] some = transomref09_SameCols.s0c g60 s0 x0 x1 x2 (fun r => some ⟨.v (.one (.d .bool r)), []⟩) := by
  kernel_rfl
def transomref09_SameCols.s0 : Nat → (List D_api_Col) → (List D_api_Col) → Int → Option Bool
  | 0, _, _, _ => none
  | k + 1, x0, x1, x2 => transomref09_SameCols.s0c (transomref09_SameCol.f k) (transomref09_SameCols.s0 k) x0 x1 x2 some
def transomref09_SameCols.f (k : Nat) (a0 : List D_api_Col) (a1 : List D_api_Col) : Option Bool := transomref09_SameCols.c (transomref09_SameCol.f k) (transomref09_SameCols.s0 k) a0 a1 some
theorem transomref09_SameCols.is {g60 : G_transomref09_SameCol} {s0 : S_transomref09_SameCols_0} : FnIs (env_transomref09_SameCols g60 s0) 43 Go.Proofs.Tryd.f43 := ⟨Go.Proofs.Tryd.func43, rfl, rfl, rfl, by decide⟩
theorem transomref09_SameCols.envok {g60 : G_transomref09_SameCol} {s0 : S_transomref09_SameCols_0} (h60 : CtOK Go.Proofs.Tryd.prog 60 (ct_transomref09_SameCol g60)) : EnvOK (env_transomref09_SameCols g60 s0).toEnv := by
  intro f c h
  simp only [env_transomref09_SameCols] at h
  split at h
  · rename_i e; subst e; cases h; exact h60
  simp at h
noncomputable abbrev transomref09_SameCols.E (k : Nat) : FEnv := env_transomref09_SameCols (transomref09_SameCol.f k) (transomref09_SameCols.s0 k)
theorem transomref09_SameCols.hE (k : Nat) : EnvOK (transomref09_SameCols.E k).toEnv := transomref09_SameCols.envok (transomref09_SameCol.ok k)
theorem transomref09_SameCols.segs_ok : ∀ k, ∀ s ∈ (transomref09_SameCols.E k).segs, SegOK (transomref09_SameCols.E k) Go.Proofs.Tryd.f43 s
  | 0 => by
    intro s hs
    simp only [transomref09_SameCols.E, env_transomref09_SameCols, List.mem_cons, List.not_mem_nil, or_false] at hs
    rcases hs with rfl
    · intro tvs blks res h; exfalso; simp only [seg_transomref09_SameCols_0] at h; split at h <;> simp [transomref09_SameCols.s0] at h
  | k + 1 => by
    intro s hs
    simp only [transomref09_SameCols.E, env_transomref09_SameCols, List.mem_cons, List.not_mem_nil, or_false] at hs
    rcases hs with rfl
    · refine seg_of_ev (E := transomref09_SameCols.E k) (transomref09_SameCols.hE k) ⟨transomref09_SameCols.is.rvs⟩ (transomref09_SameCols.segs_ok k) ?_
      intro tvs blks res h
      simp only [seg_transomref09_SameCols_0] at h
      split at h
      · exact (transomref09_SameCols.s0_ev.trans transomref09_SameCols.s0c_bind).trans h
      · simp at h
theorem transomref09_SameCols.ok (k : Nat) : CtOK Go.Proofs.Tryd.prog 43 (ct_transomref09_SameCols (transomref09_SameCols.f k)) := by
  refine ct_of_ev (E := transomref09_SameCols.E k) transomref09_SameCols.is (transomref09_SameCols.hE k) (transomref09_SameCols.segs_ok k) rfl ?_
  intro tvs blks res h
  simp only [ct_transomref09_SameCols] at h
  split at h
  · exact (transomref09_SameCols.ev.trans transomref09_SameCols.c_bind).trans h
  · simp at h

/-! ### transomref09_Same: function 16 -/
abbrev G_transomref09_Same : Type := ByteArray → Int → (List D_api_Col) → ByteArray → Int → (List D_api_Col) → Option Bool
def ct_transomref09_Same (g : G_transomref09_Same) : Ct where
  nin := 0
  mv := []
  F := fun tvs blks {β} K => match tvs, blks with
    | [.v (.agg [(.d .str a0), (.d (.int .i64) a1), (.d (.sl (.pair .str (.pair (.int .i64) (.pair .bool (.pair (.pair (.int .i64) (.pair (.int .i64) (.pair (.int .u64) (.pair .str .unit)))) .unit))))) a2)]), .v (.agg [(.d .str a3), (.d (.int .i64) a4), (.d (.sl (.pair .str (.pair (.int .i64) (.pair .bool (.pair (.pair (.int .i64) (.pair (.int .i64) (.pair (.int .u64) (.pair .str .unit)))) .unit))))) a5)])], [] => (g a0 a1 a2 a3 a4 a5).bind fun r => K ⟨.v (.one (.d .bool r)), []⟩
    | _, _ => none
  legit := fun tvs blks K r h => by
    split at h
    · obtain ⟨x, hx, hk⟩ := Option.bind_eq_some_iff.1 h
      refine ⟨_, ?_, hk⟩
      simp only [hx, Option.bind_some]
    · simp at h
noncomputable def env_transomref09_Same (g43 : G_transomref09_SameCols)  : FEnv := { P := Go.Proofs.Tryd.prog, ct := fun m => if m = 43 then some (ct_transomref09_SameCols g43) else none, N := 24, body := Go.Proofs.Tryd.f16.body.getD .skip, rvs := [.tmp 4], rts := [4], nin := 0, rmv := [], segs := [] }
def transomref09_Same.c {β : Type} (g43 : G_transomref09_SameCols)  (a0 : ByteArray) (a1 : Int) (a2 : List D_api_Col) (a3 : ByteArray) (a4 : Int) (a5 : List D_api_Col) (ret : Bool → Option β) : Option β := (bif ((ByteArray.toList a0) == (ByteArray.toList a3)) then (bif (a1 == a4) then ((g43 a2 a5).bind fun r0 => (ret (r0))) else (ret (false))) else (ret (false)))
theorem transomref09_Same.c_bind {β : Type} {g43 : G_transomref09_SameCols}  {a0 : ByteArray} {a1 : Int} {a2 : List D_api_Col} {a3 : ByteArray} {a4 : Int} {a5 : List D_api_Col} {ret : Bool → Option β} : transomref09_Same.c g43  a0 a1 a2 a3 a4 a5 ret = (transomref09_Same.c g43  a0 a1 a2 a3 a4 a5 some).bind ret := by
  simp only [transomref09_Same.c, bif_bind, sum_bind, Option.bind_assoc, Option.bind_some, Option.bind_none, Option.bind_fun_some]
theorem transomref09_Same.ev {g43 : G_transomref09_SameCols}  {a0 : ByteArray} {a1 : Int} {a2 : List D_api_Col} {a3 : ByteArray} {a4 : Int} {a5 : List D_api_Col} : evAt (env_transomref09_Same g43 ) [] [0, 1] [.v (.agg [(.d .str a0), (.d (.int .i64) a1), (.d (.sl T_api_Col) a2)]), .v (.agg [(.d .str a3), (.d (.int .i64) a4), (.d (.sl T_api_Col) a5)])] [] some = transomref09_Same.c g43  a0 a1 a2 a3 a4 a5 (fun r => some ⟨.v (.one (.d .bool r)), []⟩) := by
  kernel_rfl
def transomref09_Same.f (k : Nat) (a0 : ByteArray) (a1 : Int) (a2 : List D_api_Col) (a3 : ByteArray) (a4 : Int) (a5 : List D_api_Col) : Option Bool := transomref09_Same.c (transomref09_SameCols.f k)  a0 a1 a2 a3 a4 a5 some
theorem transomref09_Same.is {g43 : G_transomref09_SameCols}  : FnIs (env_transomref09_Same g43 ) 16 Go.Proofs.Tryd.f16 := ⟨Go.Proofs.Tryd.func16, rfl, rfl, rfl, by decide⟩
theorem transomref09_Same.envok {g43 : G_transomref09_SameCols}  (h43 : CtOK Go.Proofs.Tryd.prog 43 (ct_transomref09_SameCols g43)) : EnvOK (env_transomref09_Same g43 ).toEnv := by
  intro f c h
  simp only [env_transomref09_Same] at h
  split at h
  · rename_i e; subst e; cases h; exact h43
  simp at h
noncomputable abbrev transomref09_Same.E (k : Nat) : FEnv := env_transomref09_Same (transomref09_SameCols.f k) 
theorem transomref09_Same.hE (k : Nat) : EnvOK (transomref09_Same.E k).toEnv := transomref09_Same.envok (transomref09_SameCols.ok k)
theorem transomref09_Same.ok (k : Nat) : CtOK Go.Proofs.Tryd.prog 16 (ct_transomref09_Same (transomref09_Same.f k)) := by
  refine ct_of_ev (E := transomref09_Same.E k) transomref09_Same.is (transomref09_Same.hE k) (fun s hs => by simp [transomref09_Same.E, env_transomref09_Same] at hs) rfl ?_
  intro tvs blks res h
  simp only [ct_transomref09_Same] at h
  split at h
  · exact (transomref09_Same.ev.trans transomref09_Same.c_bind).trans h
  · simp at h
end Go.Proofs.YtddlebbjaadbeaaDoor.Aev
