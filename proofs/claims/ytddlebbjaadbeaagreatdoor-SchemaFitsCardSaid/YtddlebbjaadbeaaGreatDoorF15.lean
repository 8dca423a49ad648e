/- By a program of this session (AEV): functions of the program as plain functions, and that the machine does what they say. -/
import Derived.Test.YtddlebbjaadbeaaGreatDoorTys
import Derived.Test.YtddlebbjaadbeaaGreatDoorProg
import Derived.Laws.Externs
import Derived.Lib.Bytealg
import Derived.Test.YtddlebbjaadbeaaGreatDoorF13
import Derived.Test.YtddlebbjaadbeaaGreatDoorF14
namespace Go.Proofs.YtddlebbjaadbeaaGreatDoor.Aev
set_option linter.unusedVariables false
set_option linter.unusedSimpArgs false
set_option maxRecDepth 100000
set_option maxHeartbeats 4000000
open Go
/-! ### transomref05_Row: function 26 -/
abbrev G_transomref05_Row : Type := (List D_api_Value) → Option (ByteArray × Int)
def ct_transomref05_Row (g : G_transomref05_Row) : Ct where
  nin := 0
  mv := []
  F := fun tvs blks {β} K => match tvs, blks with
    | [.v (.one (.d (.sl (.pair (.int .i64) (.pair (.int .i64) (.pair (.int .u64) (.pair .str .unit))))) a0))], [] => (g a0).bind fun r => K ⟨.tup [(.one (.d .str r.1)), (.one (.d (.int .i64) r.2))], []⟩
    | _, _ => none
  legit := fun tvs blks K r h => by
    split at h
    · obtain ⟨x, hx, hk⟩ := Option.bind_eq_some_iff.1 h
      refine ⟨_, ?_, hk⟩
      simp only [hx, Option.bind_some]
    · simp at h
abbrev S_transomref05_Row_0 : Type := (List D_api_Value) → ByteArray → Int → Option (ByteArray × Int)
def seg_transomref05_Row_0 (g : S_transomref05_Row_0) : Seg where
  path := [4, 1, 0, 1, 1]
  prep := []
  keep := [0, 4, 5]
  F := fun tvs blks {β} K => match tvs, blks with
    | [.v (.one (.d (.sl (.pair (.int .i64) (.pair (.int .i64) (.pair (.int .u64) (.pair .str .unit))))) x0)), .v (.one (.d .str x1)), .v (.one (.d (.int .i64) x2))], [] => (g x0 x1 x2).bind fun r => K ⟨.tup [(.one (.d .str r.1)), (.one (.d (.int .i64) r.2))], []⟩
    | _, _ => none
  legit := fun tvs blks K r h => by
    split at h
    · obtain ⟨x, hx, hk⟩ := Option.bind_eq_some_iff.1 h
      refine ⟨_, ?_, hk⟩
      simp only [hx, Option.bind_some]
    · simp at h
noncomputable def env_transomref05_Row (g35 : G_transomref05_Put) (s0 : S_transomref05_Row_0) : FEnv := { P := Go.Proofs.Tryz.prog, ct := fun m => if m = 35 then some (ct_transomref05_Put g35) else none, N := 29, body := Go.Proofs.Tryz.f26.body.getD .skip, rvs := [.tmp 2, .tmp 3], rts := [9, 3], nin := 0, rmv := [], segs := [seg_transomref05_Row_0 s0] }
def transomref05_Row.c {β : Type} (g35 : G_transomref05_Put) (s0 : S_transomref05_Row_0) (a0 : List D_api_Value) (ret : (ByteArray × Int) → Option β) : Option β := ((s0 a0 (ByteArray.mk (List.toArray [])) (0 : Int)).bind ret)
def transomref05_Row.s0c {β : Type} (g35 : G_transomref05_Put) (s0 : S_transomref05_Row_0) (x0 : List D_api_Value) (x1 : ByteArray) (x2 : Int) (ret : (ByteArray × Int) → Option β) : Option β := (bif (decide (x2 < ((List.length x0) : Int))) then (bif ((decide ((0 : Int) ≤ x2)) && (decide (x2 < ((List.length x0) : Int)))) then ((g35 (elem T_api_Value x0 x2).1 (elem T_api_Value x0 x2).2.1 (elem T_api_Value x0 x2).2.2.1 (elem T_api_Value x0 x2).2.2.2.1).bind fun r0 => (bif (r0.2 != (0 : Int)) then (ret ((ByteArray.mk (List.toArray [])), r0.2)) else (bif ((decide ((ByteArray.size x1) ≤ (4611686018427387903 : Nat))) && (decide ((ByteArray.size r0.1) ≤ (4611686018427387903 : Nat)))) then ((s0 x0 (x1 ++ r0.1) (IntKind.wrap IntKind.i64 (x2 + (1 : Int)))).bind ret) else none))) else none) else (ret (x1, (0 : Int))))
theorem transomref05_Row.c_bind {β : Type} {g35 : G_transomref05_Put} {s0 : S_transomref05_Row_0} {a0 : List D_api_Value} {ret : (ByteArray × Int) → Option β} : transomref05_Row.c g35 s0 a0 ret = (transomref05_Row.c g35 s0 a0 some).bind ret := by
  simp only [transomref05_Row.c, bif_bind, sum_bind, Option.bind_assoc, Option.bind_some, Option.bind_none, Option.bind_fun_some]
theorem transomref05_Row.s0c_bind {β : Type} {g35 : G_transomref05_Put} {s0 : S_transomref05_Row_0} {x0 : List D_api_Value} {x1 : ByteArray} {x2 : Int} {ret : (ByteArray × Int) → Option β} : transomref05_Row.s0c g35 s0 x0 x1 x2 ret = (transomref05_Row.s0c g35 s0 x0 x1 x2 some).bind ret := by
  simp only [transomref05_Row.s0c, bif_bind, sum_bind, Option.bind_assoc, Option.bind_some, Option.bind_none, Option.bind_fun_some]
theorem transomref05_Row.ev {g35 : G_transomref05_Put} {s0 : S_transomref05_Row_0} {a0 : List D_api_Value} : evAt (env_transomref05_Row g35 s0) [] [0] [.v (.one (.d (.sl T_api_Value) a0))] [] some = transomref05_Row.c g35 s0 a0 (fun r => some ⟨.tup [(.one (.d .str r.1)), (.one (.d (.int .i64) r.2))], []⟩) := by
  kernel_rfl
theorem transomref05_Row.s0_ev {g35 : G_transomref05_Put} {s0 : S_transomref05_Row_0} {x0 : List D_api_Value} {x1 : ByteArray} {x2 : Int} : evAt (env_transomref05_Row g35 s0) [4, 1, 0, 1, 1] [0, 4, 5] [.v (.one (.d (.sl T_api_Value) x0)), .v (.one (.d .str x1)), .v (.one (.d (.int .i64) x2))] [] some = transomref05_Row.s0c g35 s0 x0 x1 x2 (fun r => some ⟨.tup [(.one (.d .str r.1)), (.one (.d (.int .i64) r.2))], []⟩) := by
  kernel_rfl
def transomref05_Row.s0 : Nat → (List D_api_Value) → ByteArray → Int → Option (ByteArray × Int)
  | 0, _, _, _ => none
  | k + 1, x0, x1, x2 => transomref05_Row.s0c (transomref05_Put.f k) (transomref05_Row.s0 k) x0 x1 x2 some
def transomref05_Row.f (k : Nat) (a0 : List D_api_Value) : Option (ByteArray × Int) := transomref05_Row.c (transomref05_Put.f k) (transomref05_Row.s0 k) a0 some
theorem transomref05_Row.is {g35 : G_transomref05_Put} {s0 : S_transomref05_Row_0} : FnIs (env_transomref05_Row g35 s0) 26 Go.Proofs.Tryz.f26 := ⟨Go.Proofs.Tryz.func26, rfl, rfl, rfl, by decide⟩
theorem transomref05_Row.envok {g35 : G_transomref05_Put} {s0 : S_transomref05_Row_0} (h35 : CtOK Go.Proofs.Tryz.prog 35 (ct_transomref05_Put g35)) : EnvOK (env_transomref05_Row g35 s0).toEnv := by
  intro f c h
  simp only [env_transomref05_Row] at h
  split at h
  · rename_i e; subst e; cases h; exact h35
  simp at h
noncomputable abbrev transomref05_Row.E (k : Nat) : FEnv := env_transomref05_Row (transomref05_Put.f k) (transomref05_Row.s0 k)
theorem transomref05_Row.hE (k : Nat) : EnvOK (transomref05_Row.E k).toEnv := transomref05_Row.envok (transomref05_Put.ok k)
theorem transomref05_Row.segs_ok : ∀ k, ∀ s ∈ (transomref05_Row.E k).segs, SegOK (transomref05_Row.E k) Go.Proofs.Tryz.f26 s
  | 0 => by
    intro s hs
    simp only [transomref05_Row.E, env_transomref05_Row, List.mem_cons, List.not_mem_nil, or_false] at hs
    rcases hs with rfl
    · intro tvs blks res h; exfalso; simp only [seg_transomref05_Row_0] at h; split at h <;> simp [transomref05_Row.s0] at h
  | k + 1 => by
    intro s hs
    simp only [transomref05_Row.E, env_transomref05_Row, List.mem_cons, List.not_mem_nil, or_false] at hs
    rcases hs with rfl
    · refine seg_of_ev (E := transomref05_Row.E k) (transomref05_Row.hE k) ⟨transomref05_Row.is.rvs⟩ (transomref05_Row.segs_ok k) ?_
      intro tvs blks res h
      simp only [seg_transomref05_Row_0] at h
      split at h
      · exact (transomref05_Row.s0_ev.trans transomref05_Row.s0c_bind).trans h
      · simp at h
theorem transomref05_Row.ok (k : Nat) : CtOK Go.Proofs.Tryz.prog 26 (ct_transomref05_Row (transomref05_Row.f k)) := by
  refine ct_of_ev (E := transomref05_Row.E k) transomref05_Row.is (transomref05_Row.hE k) (transomref05_Row.segs_ok k) rfl ?_
  intro tvs blks res h
  simp only [ct_transomref05_Row] at h
  split at h
  · exact (transomref05_Row.ev.trans transomref05_Row.c_bind).trans h
  · simp at h

/-! ### transomref09_Key: function 9 -/
abbrev G_transomref09_Key : Type := ByteArray → Int → (List D_api_Col) → (List D_api_Value) → Option (ByteArray × Int)
def ct_transomref09_Key (g : G_transomref09_Key) : Ct where
  nin := 0
  mv := []
  F := fun tvs blks {β} K => match tvs, blks with
    | [.v (.agg [(.d .str a0), (.d (.int .i64) a1), (.d (.sl (.pair .str (.pair (.int .i64) (.pair .bool (.pair (.pair (.int .i64) (.pair (.int .i64) (.pair (.int .u64) (.pair .str .unit)))) .unit))))) a2)]), .v (.one (.d (.sl (.pair (.int .i64) (.pair (.int .i64) (.pair (.int .u64) (.pair .str .unit))))) a3))], [] => (g a0 a1 a2 a3).bind fun r => K ⟨.tup [(.one (.d .str r.1)), (.one (.d (.int .i64) r.2))], []⟩
    | _, _ => none
  legit := fun tvs blks K r h => by
    split at h
    · obtain ⟨x, hx, hk⟩ := Option.bind_eq_some_iff.1 h
      refine ⟨_, ?_, hk⟩
      simp only [hx, Option.bind_some]
    · simp at h
noncomputable def env_transomref09_Key (g11 : G_transomref09_Fits) (g26 : G_transomref05_Row)  : FEnv := { P := Go.Proofs.Tryz.prog, ct := fun m => if m = 11 then some (ct_transomref09_Fits g11) else if m = 26 then some (ct_transomref05_Row g26) else none, N := 20, body := Go.Proofs.Tryz.f9.body.getD .skip, rvs := [.tmp 4, .tmp 5], rts := [9, 3], nin := 0, rmv := [], segs := [] }
def transomref09_Key.c {β : Type} (g11 : G_transomref09_Fits) (g26 : G_transomref05_Row)  (a0 : ByteArray) (a1 : Int) (a2 : List D_api_Col) (a3 : List D_api_Value) (ret : (ByteArray × Int) → Option β) : Option β := ((g11 a0 a1 a2 a3).bind fun r0 => (bif (r0 != (0 : Int)) then (ret ((ByteArray.mk (List.toArray [])), r0)) else (bif ((true && (decide ((0 : Int) ≤ a1))) && (decide (a1 ≤ ((List.length a3) : Int)))) then ((g26 (List.take ((Int.toNat a1) - (0 : Nat)) (List.drop (0 : Nat) a3))).bind fun r1 => (ret (r1.1, r1.2))) else none)))
theorem transomref09_Key.c_bind {β : Type} {g11 : G_transomref09_Fits} {g26 : G_transomref05_Row}  {a0 : ByteArray} {a1 : Int} {a2 : List D_api_Col} {a3 : List D_api_Value} {ret : (ByteArray × Int) → Option β} : transomref09_Key.c g11 g26  a0 a1 a2 a3 ret = (transomref09_Key.c g11 g26  a0 a1 a2 a3 some).bind ret := by
  simp only [transomref09_Key.c, bif_bind, sum_bind, Option.bind_assoc, Option.bind_some, Option.bind_none, Option.bind_fun_some]
theorem transomref09_Key.ev {g11 : G_transomref09_Fits} {g26 : G_transomref05_Row}  {a0 : ByteArray} {a1 : Int} {a2 : List D_api_Col} {a3 : List D_api_Value} : evAt (env_transomref09_Key g11 g26 ) [] [0, 1] [.v (.agg [(.d .str a0), (.d (.int .i64) a1), (.d (.sl T_api_Col) a2)]), .v (.one (.d (.sl T_api_Value) a3))] [] some = transomref09_Key.c g11 g26  a0 a1 a2 a3 (fun r => some ⟨.tup [(.one (.d .str r.1)), (.one (.d (.int .i64) r.2))], []⟩) := by
  kernel_rfl
def transomref09_Key.f (k : Nat) (a0 : ByteArray) (a1 : Int) (a2 : List D_api_Col) (a3 : List D_api_Value) : Option (ByteArray × Int) := transomref09_Key.c (transomref09_Fits.f k) (transomref05_Row.f k)  a0 a1 a2 a3 some
theorem transomref09_Key.is {g11 : G_transomref09_Fits} {g26 : G_transomref05_Row}  : FnIs (env_transomref09_Key g11 g26 ) 9 Go.Proofs.Tryz.f9 := ⟨Go.Proofs.Tryz.func9, rfl, rfl, rfl, by decide⟩
theorem transomref09_Key.envok {g11 : G_transomref09_Fits} {g26 : G_transomref05_Row}  (h11 : CtOK Go.Proofs.Tryz.prog 11 (ct_transomref09_Fits g11)) (h26 : CtOK Go.Proofs.Tryz.prog 26 (ct_transomref05_Row g26)) : EnvOK (env_transomref09_Key g11 g26 ).toEnv := by
  intro f c h
  simp only [env_transomref09_Key] at h
  split at h
  · rename_i e; subst e; cases h; exact h11
  split at h
  · rename_i e; subst e; cases h; exact h26
  simp at h
noncomputable abbrev transomref09_Key.E (k : Nat) : FEnv := env_transomref09_Key (transomref09_Fits.f k) (transomref05_Row.f k) 
theorem transomref09_Key.hE (k : Nat) : EnvOK (transomref09_Key.E k).toEnv := transomref09_Key.envok (transomref09_Fits.ok k) (transomref05_Row.ok k)
theorem transomref09_Key.ok (k : Nat) : CtOK Go.Proofs.Tryz.prog 9 (ct_transomref09_Key (transomref09_Key.f k)) := by
  refine ct_of_ev (E := transomref09_Key.E k) transomref09_Key.is (transomref09_Key.hE k) (fun s hs => by simp [transomref09_Key.E, env_transomref09_Key] at hs) rfl ?_
  intro tvs blks res h
  simp only [ct_transomref09_Key] at h
  split at h
  · exact (transomref09_Key.ev.trans transomref09_Key.c_bind).trans h
  · simp at h

/-! ### transomref09_FitsKey: function 13 -/
abbrev G_transomref09_FitsKey : Type := ByteArray → Int → (List D_api_Col) → (List D_api_Value) → Bool → Option Int
def ct_transomref09_FitsKey (g : G_transomref09_FitsKey) : Ct where
  nin := 0
  mv := []
  F := fun tvs blks {β} K => match tvs, blks with
    | [.v (.agg [(.d .str a0), (.d (.int .i64) a1), (.d (.sl (.pair .str (.pair (.int .i64) (.pair .bool (.pair (.pair (.int .i64) (.pair (.int .i64) (.pair (.int .u64) (.pair .str .unit)))) .unit))))) a2)]), .v (.one (.d (.sl (.pair (.int .i64) (.pair (.int .i64) (.pair (.int .u64) (.pair .str .unit))))) a3)), .v (.one (.d .bool a4))], [] => (g a0 a1 a2 a3 a4).bind fun r => K ⟨.v (.one (.d (.int .i64) r)), []⟩
    | _, _ => none
  legit := fun tvs blks K r h => by
    split at h
    · obtain ⟨x, hx, hk⟩ := Option.bind_eq_some_iff.1 h
      refine ⟨_, ?_, hk⟩
      simp only [hx, Option.bind_some]
    · simp at h
noncomputable def env_transomref09_FitsKey (g28 : G_transomref09_Check) (g29 : G_transomref09_fits)  : FEnv := { P := Go.Proofs.Tryz.prog, ct := fun m => if m = 28 then some (ct_transomref09_Check g28) else if m = 29 then some (ct_transomref09_fits g29) else none, N := 31, body := Go.Proofs.Tryz.f13.body.getD .skip, rvs := [.tmp 6], rts := [3], nin := 0, rmv := [], segs := [] }
def transomref09_FitsKey.c {β : Type} (g28 : G_transomref09_Check) (g29 : G_transomref09_fits)  (a0 : ByteArray) (a1 : Int) (a2 : List D_api_Col) (a3 : List D_api_Value) (a4 : Bool) (ret : Int → Option β) : Option β := ((g28 a0 a1 a2).bind fun r0 => (bif (r0 != (0 : Int)) then (ret (r0)) else (bif (decide (((List.length a3) : Int) > a1)) then (ret ((11 : Int))) else (bif a4 then (bif (((List.length a3) : Int) != a1) then (ret ((11 : Int))) else ((g29 a0 a1 a2 a3).bind fun r1 => (ret (r1)))) else ((g29 a0 a1 a2 a3).bind fun r2 => (ret (r2)))))))
theorem transomref09_FitsKey.c_bind {β : Type} {g28 : G_transomref09_Check} {g29 : G_transomref09_fits}  {a0 : ByteArray} {a1 : Int} {a2 : List D_api_Col} {a3 : List D_api_Value} {a4 : Bool} {ret : Int → Option β} : transomref09_FitsKey.c g28 g29  a0 a1 a2 a3 a4 ret = (transomref09_FitsKey.c g28 g29  a0 a1 a2 a3 a4 some).bind ret := by
  simp only [transomref09_FitsKey.c, bif_bind, sum_bind, Option.bind_assoc, Option.bind_some, Option.bind_none, Option.bind_fun_some]
theorem transomref09_FitsKey.ev {g28 : G_transomref09_Check} {g29 : G_transomref09_fits}  {a0 : ByteArray} {a1 : Int} {a2 : List D_api_Col} {a3 : List D_api_Value} {a4 : Bool} : evAt (env_transomref09_FitsKey g28 g29 ) [] [0, 1, 2] [.v (.agg [(.d .str a0), (.d (.int .i64) a1), (.d (.sl T_api_Col) a2)]), .v (.one (.d (.sl T_api_Value) a3)), .v (.one (.d .bool a4))] [] some = transomref09_FitsKey.c g28 g29  a0 a1 a2 a3 a4 (fun r => some ⟨.v (.one (.d (.int .i64) r)), []⟩) := by
  kernel_rfl
def transomref09_FitsKey.f (k : Nat) (a0 : ByteArray) (a1 : Int) (a2 : List D_api_Col) (a3 : List D_api_Value) (a4 : Bool) : Option Int := transomref09_FitsKey.c (transomref09_Check.f k) (transomref09_fits.f k)  a0 a1 a2 a3 a4 some
theorem transomref09_FitsKey.is {g28 : G_transomref09_Check} {g29 : G_transomref09_fits}  : FnIs (env_transomref09_FitsKey g28 g29 ) 13 Go.Proofs.Tryz.f13 := ⟨Go.Proofs.Tryz.func13, rfl, rfl, rfl, by decide⟩
theorem transomref09_FitsKey.envok {g28 : G_transomref09_Check} {g29 : G_transomref09_fits}  (h28 : CtOK Go.Proofs.Tryz.prog 28 (ct_transomref09_Check g28)) (h29 : CtOK Go.Proofs.Tryz.prog 29 (ct_transomref09_fits g29)) : EnvOK (env_transomref09_FitsKey g28 g29 ).toEnv := by
  intro f c h
  simp only [env_transomref09_FitsKey] at h
  split at h
  · rename_i e; subst e; cases h; exact h28
  split at h
  · rename_i e; subst e; cases h; exact h29
  simp at h
noncomputable abbrev transomref09_FitsKey.E (k : Nat) : FEnv := env_transomref09_FitsKey (transomref09_Check.f k) (transomref09_fits.f k) 
theorem transomref09_FitsKey.hE (k : Nat) : EnvOK (transomref09_FitsKey.E k).toEnv := transomref09_FitsKey.envok (transomref09_Check.ok k) (transomref09_fits.ok k)
theorem transomref09_FitsKey.ok (k : Nat) : CtOK Go.Proofs.Tryz.prog 13 (ct_transomref09_FitsKey (transomref09_FitsKey.f k)) := by
  refine ct_of_ev (E := transomref09_FitsKey.E k) transomref09_FitsKey.is (transomref09_FitsKey.hE k) (fun s hs => by simp [transomref09_FitsKey.E, env_transomref09_FitsKey] at hs) rfl ?_
  intro tvs blks res h
  simp only [ct_transomref09_FitsKey] at h
  split at h
  · exact (transomref09_FitsKey.ev.trans transomref09_FitsKey.c_bind).trans h
  · simp at h
end Go.Proofs.YtddlebbjaadbeaaGreatDoor.Aev
