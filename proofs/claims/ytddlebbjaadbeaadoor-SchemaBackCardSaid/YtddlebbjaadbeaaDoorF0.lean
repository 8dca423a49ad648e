/- By a program of this session (AEV): functions of the program as plain functions, and that the machine does what they say. -/
import Derived.Test.YtddlebbjaadbeaaDoorTys
import Derived.Test.YtddlebbjaadbeaaDoorProg
import Derived.Laws.Externs
import Derived.Lib.Bytealg
import Derived.Test.YtddlebbjaadbeaaDoorAevY
import Derived.Below
import Derived.LaidEql
import Derived.RowKitTokens
import Derived.Stop.Asserts
import Derived.WalkKit
namespace Go.Proofs.YtddlebbjaadbeaaDoor.Aev
set_option linter.unusedVariables false
set_option linter.unusedSimpArgs false
set_option maxRecDepth 100000
set_option maxHeartbeats 4000000
open Go
/-! ### transomlaw04_Few: function 22 -/
abbrev G_transomlaw04_Few : Type := Int → Int → Int → ByteArray → Option Int
def ct_transomlaw04_Few (g : G_transomlaw04_Few) : Ct where
  nin := 0
  mv := []
  F := fun tvs blks {β} K => match tvs, blks with
    | [.v (.agg [(.d (.int .i64) a0), (.d (.int .i64) a1), (.d (.int .u64) a2), (.d .str a3)])], [] => (g a0 a1 a2 a3).bind fun r => K ⟨.v (.one (.d (.int .i64) r)), []⟩
    | _, _ => none
  legit := fun tvs blks K r h => by
    split at h
    · obtain ⟨x, hx, hk⟩ := Option.bind_eq_some_iff.1 h
      refine ⟨_, ?_, hk⟩
      simp only [hx, Option.bind_some]
    · simp at h
noncomputable def env_transomlaw04_Few   : FEnv := { P := Go.Proofs.Tryd.prog, ct := fun m => none, N := 7, body := Go.Proofs.Tryd.f22.body.getD .skip, rvs := [.tmp 2], rts := [3], nin := 0, rmv := [], segs := [] }
def transomlaw04_Few.c {β : Type}   (a0 : Int) (a1 : Int) (a2 : Int) (a3 : ByteArray) (ret : Int → Option β) : Option β := (bif (decide (((ByteArray.size a3) : Int) > (2000 : Int))) then (ret ((0 : Int))) else (ret ((1 : Int))))
theorem transomlaw04_Few.c_bind {β : Type}   {a0 : Int} {a1 : Int} {a2 : Int} {a3 : ByteArray} {ret : Int → Option β} : transomlaw04_Few.c   a0 a1 a2 a3 ret = (transomlaw04_Few.c   a0 a1 a2 a3 some).bind ret := by
  simp only [transomlaw04_Few.c, bif_bind, sum_bind, Option.bind_assoc, Option.bind_some, Option.bind_none, Option.bind_fun_some]
theorem transomlaw04_Few.ev   {a0 : Int} {a1 : Int} {a2 : Int} {a3 : ByteArray} : evAt (env_transomlaw04_Few  ) [] [0] [.v (.agg [(.d (.int .i64) a0), (.d (.int .i64) a1), (.d (.int .u64) a2), (.d .str a3)])] [] some = transomlaw04_Few.c   a0 a1 a2 a3 (fun r => some ⟨.v (.one (.d (.int .i64) r)), []⟩) := by
  kernel_rfl
def transomlaw04_Few.f (k : Nat) (a0 : Int) (a1 : Int) (a2 : Int) (a3 : ByteArray) : Option Int := transomlaw04_Few.c   a0 a1 a2 a3 some
theorem transomlaw04_Few.is   : FnIs (env_transomlaw04_Few  ) 22 Go.Proofs.Tryd.f22 := ⟨Go.Proofs.Tryd.func22, rfl, rfl, rfl, by decide⟩
theorem transomlaw04_Few.envok    : EnvOK (env_transomlaw04_Few  ).toEnv := by
  intro f c h
  simp only [env_transomlaw04_Few] at h
  simp at h
noncomputable abbrev transomlaw04_Few.E (k : Nat) : FEnv := env_transomlaw04_Few  
theorem transomlaw04_Few.hE (k : Nat) : EnvOK (transomlaw04_Few.E k).toEnv := transomlaw04_Few.envok 
theorem transomlaw04_Few.ok (k : Nat) : CtOK Go.Proofs.Tryd.prog 22 (ct_transomlaw04_Few (transomlaw04_Few.f k)) := by
  refine ct_of_ev (E := transomlaw04_Few.E k) transomlaw04_Few.is (transomlaw04_Few.hE k) (fun s hs => by simp [transomlaw04_Few.E, env_transomlaw04_Few] at hs) rfl ?_
  intro tvs blks res h
  simp only [ct_transomlaw04_Few] at h
  split at h
  · exact (transomlaw04_Few.ev.trans transomlaw04_Few.c_bind).trans h
  · simp at h

/-! ### transomlaw09_Few: function 6 -/
abbrev G_transomlaw09_Few : Type := ByteArray → Int → (List D_api_Col) → Option Int
def ct_transomlaw09_Few (g : G_transomlaw09_Few) : Ct where
  nin := 0
  mv := []
  F := fun tvs blks {β} K => match tvs, blks with
    | [.v (.agg [(.d .str a0), (.d (.int .i64) a1), (.d (.sl (.pair .str (.pair (.int .i64) (.pair .bool (.pair (.pair (.int .i64) (.pair (.int .i64) (.pair (.int .u64) (.pair .str .unit)))) .unit))))) a2)])], [] => (g a0 a1 a2).bind fun r => K ⟨.v (.one (.d (.int .i64) r)), []⟩
    | _, _ => none
  legit := fun tvs blks K r h => by
    split at h
    · obtain ⟨x, hx, hk⟩ := Option.bind_eq_some_iff.1 h
      refine ⟨_, ?_, hk⟩
      simp only [hx, Option.bind_some]
    · simp at h
abbrev S_transomlaw09_Few_0 : Type := Bool → ByteArray → Int → (List D_api_Col) → Option Int
abbrev S_transomlaw09_Few_1 : Type := ByteArray → Int → (List D_api_Col) → Option Int
abbrev S_transomlaw09_Few_2 : Type := Int → ByteArray → Int → (List D_api_Col) → Option Int
abbrev S_transomlaw09_Few_3 : Type := Int → Bool → ByteArray → Int → (List D_api_Col) → Option Int
abbrev S_transomlaw09_Few_4 : Type := Int → ByteArray → Int → (List D_api_Col) → Option Int
def seg_transomlaw09_Few_0 (g : S_transomlaw09_Few_0) : Seg where
  path := [1, 0, 1]
  prep := []
  keep := [1, 13]
  F := fun tvs blks {β} K => match tvs, blks with
    | [.v (.one (.ptr 0 0)), .v (.one (.d .bool x0))], [some (.box [(.d .str x1), (.d (.int .i64) x2), (.d (.sl (.pair .str (.pair (.int .i64) (.pair .bool (.pair (.pair (.int .i64) (.pair (.int .i64) (.pair (.int .u64) (.pair .str .unit)))) .unit))))) x3)])] => (g x0 x1 x2 x3).bind fun r => K ⟨.v (.one (.d (.int .i64) r)), []⟩
    | _, _ => none
  legit := fun tvs blks K r h => by
    split at h
    · obtain ⟨x, hx, hk⟩ := Option.bind_eq_some_iff.1 h
      refine ⟨_, ?_, hk⟩
      simp only [hx, Option.bind_some]
    · simp at h
def seg_transomlaw09_Few_1 (g : S_transomlaw09_Few_1) : Seg where
  path := [1, 1]
  prep := []
  keep := [1]
  F := fun tvs blks {β} K => match tvs, blks with
    | [.v (.one (.ptr 0 0))], [some (.box [(.d .str x0), (.d (.int .i64) x1), (.d (.sl (.pair .str (.pair (.int .i64) (.pair .bool (.pair (.pair (.int .i64) (.pair (.int .i64) (.pair (.int .u64) (.pair .str .unit)))) .unit))))) x2)])] => (g x0 x1 x2).bind fun r => K ⟨.v (.one (.d (.int .i64) r)), []⟩
    | _, _ => none
  legit := fun tvs blks K r h => by
    split at h
    · obtain ⟨x, hx, hk⟩ := Option.bind_eq_some_iff.1 h
      refine ⟨_, ?_, hk⟩
      simp only [hx, Option.bind_some]
    · simp at h
def seg_transomlaw09_Few_2 (g : S_transomlaw09_Few_2) : Seg where
  path := [4, 1, 0, 1, 1]
  prep := []
  keep := [1, 3]
  F := fun tvs blks {β} K => match tvs, blks with
    | [.v (.one (.ptr 0 0)), .v (.one (.d (.int .i64) x0))], [some (.box [(.d .str x1), (.d (.int .i64) x2), (.d (.sl (.pair .str (.pair (.int .i64) (.pair .bool (.pair (.pair (.int .i64) (.pair (.int .i64) (.pair (.int .u64) (.pair .str .unit)))) .unit))))) x3)])] => (g x0 x1 x2 x3).bind fun r => K ⟨.v (.one (.d (.int .i64) r)), []⟩
    | _, _ => none
  legit := fun tvs blks K r h => by
    split at h
    · obtain ⟨x, hx, hk⟩ := Option.bind_eq_some_iff.1 h
      refine ⟨_, ?_, hk⟩
      simp only [hx, Option.bind_some]
    · simp at h
def seg_transomlaw09_Few_3 (g : S_transomlaw09_Few_3) : Seg where
  path := [1, 4, 0, 1, 5, 4, 1, 0, 1, 1]
  prep := []
  keep := [1, 3, 38]
  F := fun tvs blks {β} K => match tvs, blks with
    | [.v (.one (.ptr 0 0)), .v (.one (.d (.int .i64) x0)), .v (.one (.d .bool x1))], [some (.box [(.d .str x2), (.d (.int .i64) x3), (.d (.sl (.pair .str (.pair (.int .i64) (.pair .bool (.pair (.pair (.int .i64) (.pair (.int .i64) (.pair (.int .u64) (.pair .str .unit)))) .unit))))) x4)])] => (g x0 x1 x2 x3 x4).bind fun r => K ⟨.v (.one (.d (.int .i64) r)), []⟩
    | _, _ => none
  legit := fun tvs blks K r h => by
    split at h
    · obtain ⟨x, hx, hk⟩ := Option.bind_eq_some_iff.1 h
      refine ⟨_, ?_, hk⟩
      simp only [hx, Option.bind_some]
    · simp at h
def seg_transomlaw09_Few_4 (g : S_transomlaw09_Few_4) : Seg where
  path := [1, 1, 5, 4, 1, 0, 1, 1]
  prep := []
  keep := [1, 3]
  F := fun tvs blks {β} K => match tvs, blks with
    | [.v (.one (.ptr 0 0)), .v (.one (.d (.int .i64) x0))], [some (.box [(.d .str x1), (.d (.int .i64) x2), (.d (.sl (.pair .str (.pair (.int .i64) (.pair .bool (.pair (.pair (.int .i64) (.pair (.int .i64) (.pair (.int .u64) (.pair .str .unit)))) .unit))))) x3)])] => (g x0 x1 x2 x3).bind fun r => K ⟨.v (.one (.d (.int .i64) r)), []⟩
    | _, _ => none
  legit := fun tvs blks K r h => by
    split at h
    · obtain ⟨x, hx, hk⟩ := Option.bind_eq_some_iff.1 h
      refine ⟨_, ?_, hk⟩
      simp only [hx, Option.bind_some]
    · simp at h
noncomputable def env_transomlaw09_Few (g22 : G_transomlaw04_Few) (s0 : S_transomlaw09_Few_0) (s1 : S_transomlaw09_Few_1) (s2 : S_transomlaw09_Few_2) (s3 : S_transomlaw09_Few_3) (s4 : S_transomlaw09_Few_4) : FEnv := { P := Go.Proofs.Tryd.prog, ct := fun m => if m = 22 then some (ct_transomlaw04_Few g22) else none, N := 39, body := Go.Proofs.Tryd.f6.body.getD .skip, rvs := [.tmp 2], rts := [3], nin := 0, rmv := [], segs := [seg_transomlaw09_Few_0 s0, seg_transomlaw09_Few_1 s1, seg_transomlaw09_Few_2 s2, seg_transomlaw09_Few_3 s3, seg_transomlaw09_Few_4 s4] }
def transomlaw09_Few.c {β : Type} (g22 : G_transomlaw04_Few) (s0 : S_transomlaw09_Few_0) (s1 : S_transomlaw09_Few_1) (s2 : S_transomlaw09_Few_2) (s3 : S_transomlaw09_Few_3) (s4 : S_transomlaw09_Few_4) (a0 : ByteArray) (a1 : Int) (a2 : List D_api_Col) (ret : Int → Option β) : Option β := (bif (decide (((List.length a2) : Int) > (20 : Int))) then ((s0 true a0 a1 a2).bind ret) else ((s0 (decide (((ByteArray.size a0) : Int) > (500 : Int))) a0 a1 a2).bind ret))
def transomlaw09_Few.s0c {β : Type} (g22 : G_transomlaw04_Few) (s0 : S_transomlaw09_Few_0) (s1 : S_transomlaw09_Few_1) (s2 : S_transomlaw09_Few_2) (s3 : S_transomlaw09_Few_3) (s4 : S_transomlaw09_Few_4) (x0 : Bool) (x1 : ByteArray) (x2 : Int) (x3 : List D_api_Col) (ret : Int → Option β) : Option β := (bif x0 then (ret ((0 : Int))) else ((s1 x1 x2 x3).bind ret))
def transomlaw09_Few.s1c {β : Type} (g22 : G_transomlaw04_Few) (s0 : S_transomlaw09_Few_0) (s1 : S_transomlaw09_Few_1) (s2 : S_transomlaw09_Few_2) (s3 : S_transomlaw09_Few_3) (s4 : S_transomlaw09_Few_4) (x0 : ByteArray) (x1 : Int) (x2 : List D_api_Col) (ret : Int → Option β) : Option β := ((s2 (0 : Int) x0 x1 x2).bind ret)
def transomlaw09_Few.s2c {β : Type} (g22 : G_transomlaw04_Few) (s0 : S_transomlaw09_Few_0) (s1 : S_transomlaw09_Few_1) (s2 : S_transomlaw09_Few_2) (s3 : S_transomlaw09_Few_3) (s4 : S_transomlaw09_Few_4) (x0 : Int) (x1 : ByteArray) (x2 : Int) (x3 : List D_api_Col) (ret : Int → Option β) : Option β := (bif (decide (x0 < ((List.length x3) : Int))) then (bif ((decide ((0 : Int) ≤ x0)) && (decide (x0 < ((List.length x3) : Int)))) then (bif (decide (((ByteArray.size (elem T_api_Col x3 x0).1) : Int) > (500 : Int))) then ((s3 x0 true x1 x2 x3).bind ret) else (bif ((decide ((0 : Int) ≤ x0)) && (decide (x0 < ((List.length x3) : Int)))) then ((g22 (elem T_api_Col x3 x0).2.2.2.1.1 (elem T_api_Col x3 x0).2.2.2.1.2.1 (elem T_api_Col x3 x0).2.2.2.1.2.2.1 (elem T_api_Col x3 x0).2.2.2.1.2.2.2.1).bind fun r0 => ((s3 x0 (r0 == (0 : Int)) x1 x2 x3).bind ret)) else none)) else none) else (ret ((1 : Int))))
def transomlaw09_Few.s3c {β : Type} (g22 : G_transomlaw04_Few) (s0 : S_transomlaw09_Few_0) (s1 : S_transomlaw09_Few_1) (s2 : S_transomlaw09_Few_2) (s3 : S_transomlaw09_Few_3) (s4 : S_transomlaw09_Few_4) (x0 : Int) (x1 : Bool) (x2 : ByteArray) (x3 : Int) (x4 : List D_api_Col) (ret : Int → Option β) : Option β := (bif x1 then (ret ((0 : Int))) else ((s4 x0 x2 x3 x4).bind ret))
def transomlaw09_Few.s4c {β : Type} (g22 : G_transomlaw04_Few) (s0 : S_transomlaw09_Few_0) (s1 : S_transomlaw09_Few_1) (s2 : S_transomlaw09_Few_2) (s3 : S_transomlaw09_Few_3) (s4 : S_transomlaw09_Few_4) (x0 : Int) (x1 : ByteArray) (x2 : Int) (x3 : List D_api_Col) (ret : Int → Option β) : Option β := ((s2 (IntKind.wrap IntKind.i64 (x0 + (1 : Int))) x1 x2 x3).bind ret)
theorem transomlaw09_Few.c_bind {β : Type} {g22 : G_transomlaw04_Few} {s0 : S_transomlaw09_Few_0} {s1 : S_transomlaw09_Few_1} {s2 : S_transomlaw09_Few_2} {s3 : S_transomlaw09_Few_3} {s4 : S_transomlaw09_Few_4} {a0 : ByteArray} {a1 : Int} {a2 : List D_api_Col} {ret : Int → Option β} : transomlaw09_Few.c g22 s0 s1 s2 s3 s4 a0 a1 a2 ret = (transomlaw09_Few.c g22 s0 s1 s2 s3 s4 a0 a1 a2 some).bind ret := by
  simp only [transomlaw09_Few.c, bif_bind, sum_bind, Option.bind_assoc, Option.bind_some, Option.bind_none, Option.bind_fun_some]
theorem transomlaw09_Few.s0c_bind {β : Type} {g22 : G_transomlaw04_Few} {s0 : S_transomlaw09_Few_0} {s1 : S_transomlaw09_Few_1} {s2 : S_transomlaw09_Few_2} {s3 : S_transomlaw09_Few_3} {s4 : S_transomlaw09_Few_4} {x0 : Bool} {x1 : ByteArray} {x2 : Int} {x3 : List D_api_Col} {ret : Int → Option β} : transomlaw09_Few.s0c g22 s0 s1 s2 s3 s4 x0 x1 x2 x3 ret = (transomlaw09_Few.s0c g22 s0 s1 s2 s3 s4 x0 x1 x2 x3 some).bind ret := by
  simp only [transomlaw09_Few.s0c, bif_bind, sum_bind, Option.bind_assoc, Option.bind_some, Option.bind_none, Option.bind_fun_some]
theorem transomlaw09_Few.s1c_bind {β : Type} {g22 : G_transomlaw04_Few} {s0 : S_transomlaw09_Few_0} {s1 : S_transomlaw09_Few_1} {s2 : S_transomlaw09_Few_2} {s3 : S_transomlaw09_Few_3} {s4 : S_transomlaw09_Few_4} {x0 : ByteArray} {x1 : Int} {x2 : List D_api_Col} {ret : Int → Option β} : transomlaw09_Few.s1c g22 s0 s1 s2 s3 s4 x0 x1 x2 ret = (transomlaw09_Few.s1c g22 s0 s1 s2 s3 s4 x0 x1 x2 some).bind ret := by
  simp only [transomlaw09_Few.s1c, bif_bind, sum_bind, Option.bind_assoc, Option.bind_some, Option.bind_none, Option.bind_fun_some]
theorem transomlaw09_Few.s2c_bind {β : Type} {g22 : G_transomlaw04_Few} {s0 : S_transomlaw09_Few_0} {s1 : S_transomlaw09_Few_1} {s2 : S_transomlaw09_Few_2} {s3 : S_transomlaw09_Few_3} {s4 : S_transomlaw09_Few_4} {x0 : Int} {x1 : ByteArray} {x2 : Int} {x3 : List D_api_Col} {ret : Int → Option β} : transomlaw09_Few.s2c g22 s0 s1 s2 s3 s4 x0 x1 x2 x3 ret = (transomlaw09_Few.s2c g22 s0 s1 s2 s3 s4 x0 x1 x2 x3 some).bind ret := by
  simp only [transomlaw09_Few.s2c, bif_bind, sum_bind, Option.bind_assoc, Option.bind_some, Option.bind_none, Option.bind_fun_some]
theorem transomlaw09_Few.s3c_bind {β : Type} {g22 : G_transomlaw04_Few} {s0 : S_transomlaw09_Few_0} {s1 : S_transomlaw09_Few_1} {s2 : S_transomlaw09_Few_2} {s3 : S_transomlaw09_Few_3} {s4 : S_transomlaw09_Few_4} {x0 : Int} {x1 : Bool} {x2 : ByteArray} {x3 : Int} {x4 : List D_api_Col} {ret : Int → Option β} : transomlaw09_Few.s3c g22 s0 s1 s2 s3 s4 x0 x1 x2 x3 x4 ret = (transomlaw09_Few.s3c g22 s0 s1 s2 s3 s4 x0 x1 x2 x3 x4 some).bind ret := by
  simp only [transomlaw09_Few.s3c, bif_bind, sum_bind, Option.bind_assoc, Option.bind_some, Option.bind_none, Option.bind_fun_some]
theorem transomlaw09_Few.s4c_bind {β : Type} {g22 : G_transomlaw04_Few} {s0 : S_transomlaw09_Few_0} {s1 : S_transomlaw09_Few_1} {s2 : S_transomlaw09_Few_2} {s3 : S_transomlaw09_Few_3} {s4 : S_transomlaw09_Few_4} {x0 : Int} {x1 : ByteArray} {x2 : Int} {x3 : List D_api_Col} {ret : Int → Option β} : transomlaw09_Few.s4c g22 s0 s1 s2 s3 s4 x0 x1 x2 x3 ret = (transomlaw09_Few.s4c g22 s0 s1 s2 s3 s4 x0 x1 x2 x3 some).bind ret := by
  simp only [transomlaw09_Few.s4c, bif_bind, sum_bind, Option.bind_assoc, Option.bind_some, Option.bind_none, Option.bind_fun_some]
theorem transomlaw09_Few.ev {g22 : G_transomlaw04_Few} {s0 : S_transomlaw09_Few_0} {s1 : S_transomlaw09_Few_1} {s2 : S_transomlaw09_Few_2} {s3 : S_transomlaw09_Few_3} {s4 : S_transomlaw09_Few_4} {a0 : ByteArray} {a1 : Int} {a2 : List D_api_Col} : evAt (env_transomlaw09_Few g22 s0 s1 s2 s3 s4) [] [0] [.v (.agg [(.d .str a0), (.d (.int .i64) a1), (.d (.sl T_api_Col) a2)])] [] some = transomlaw09_Few.c g22 s0 s1 s2 s3 s4 a0 a1 a2 (fun r => some ⟨.v (.one (.d (.int .i64) r)), []⟩) := by
  kernel_rfl
theorem transomlaw09_Few.s0_ev {g22 : G_transomlaw04_Few} {s0 : S_transomlaw09_Few_0} {s1 : S_transomlaw09_Few_1} {s2 : S_transomlaw09_Few_2} {s3 : S_transomlaw09_Few_3} {s4 : S_transomlaw09_Few_4} {x0 : Bool} {x1 : ByteArray} {x2 : Int} {x3 : List D_api_Col} : evAt (env_transomlaw09_Few g22 s0 s1 s2 s3 s4) [1, 0, 1] [1, 13] [.v (.one (.ptr 0 0)), .v (.one (.d .bool x0))] [some (.box [(.d .str x1), (.d (.int .i64) x2), (.d (.sl T_api_Col) x3)])] some = transomlaw09_Few.s0c g22 s0 s1 s2 s3 s4 x0 x1 x2 x3 (fun r => some ⟨.v (.one (.d (.int .i64) r)), []⟩) := by
  kernel_rfl
theorem transomlaw09_Few.s1_ev {g22 : G_transomlaw04_Few} {s0 : S_transomlaw09_Few_0} {s1 : S_transomlaw09_Few_1} {s2 : S_transomlaw09_Few_2} {s3 : S_transomlaw09_Few_3} {s4 : S_transomlaw09_Few_4} {x0 : ByteArray} {x1 : Int} {x2 : List D_api_Col} : evAt (env_transomlaw09_Few g22 s0 s1 s2 s3 s4) [1, 1] [1] [.v (.one (.ptr 0 0))] [some (.box [(.d .str x0), (.d (.int .i64) x1), (.d (.sl T_api_Col) x2)])] some = transomlaw09_Few.s1c g22 s0 s1 s2 s3 s4 x0 x1 x2 (fun r => some ⟨.v (.one (.d (.int .i64) r)), []⟩) := by
  kernel_rfl
theorem transomlaw09_Few.s2_ev {g22 : G_transomlaw04_Few} {s0 : S_transomlaw09_Few_0} {s1 : S_transomlaw09_Few_1} {s2 : S_transomlaw09_Few_2} {s3 : S_transomlaw09_Few_3} {s4 : S_transomlaw09_Few_4} {x0 : Int} {x1 : ByteArray} {x2 : Int} {x3 : List D_api_Col} : evAt (env_transomlaw09_Few g22 s0 s1 s2 s3 s4) [4, 1, 0, 1, 1] [1, 3] [.v (.one (.ptr 0 0)), .v (.one (.d (.int .i64) x0))] [some (.box [(.d .str x1), (.d (.int .i64) x2), (.d (.sl T_api_Col) x3)])] some = transomlaw09_Few.s2c g22 s0 s1 s2 s3 s4 x0 x1 x2 x3 (fun r => some ⟨.v (.one (.d (.int .i64) r)), []⟩) := by
  kernel_rfl
theorem transomlaw09_Few.s3_ev {g22 : G_transomlaw04_Few} {s0 : S_transomlaw09_Few_0} {s1 : S_transomlaw09_Few_1} {s2 : S_transomlaw09_Few_2} {s3 : S_transomlaw09_Few_3} {s4 : S_transomlaw09_Few_4} {x0 : Int} {x1 : Bool} {x2 : ByteArray} {x3 : Int} {x4 : List D_api_Col} : evAt (env_transomlaw09_Few g22 s0 s1 s2 s3 s4) [1, 4, 0, 1, 5, 4, 1, 0, 1, 1] [1, 3, 38] [.v (.one (.ptr 0 0)), .v (.one (.d (.int .i64) x0)), .v (.one (.d .bool x1))] [some (.box [(.d .str x2), (.d (.int .i64) x3), (.d (.sl T_api_Col) x4)])] some = transomlaw09_Few.s3c g22 s0 s1 s2 s3 s4 x0 x1 x2 x3 x4 (fun r => some ⟨.v (.one (.d (.int .i64) r)), []⟩) := by
  kernel_rfl
theorem transomlaw09_Few.s4_ev {g22 : G_transomlaw04_Few} {s0 : S_transomlaw09_Few_0} {s1 : S_transomlaw09_Few_1} {s2 : S_transomlaw09_Few_2} {s3 : S_transomlaw09_Few_3} {s4 : S_transomlaw09_Few_4} {x0 : Int} {x1 : ByteArray} {x2 : Int} {x3 : List D_api_Col} : evAt (env_transomlaw09_Few g22 s0 s1 s2 s3 s4) [1, 1, 5, 4, 1, 0, 1, 1] [1, 3] [.v (.one (.ptr 0 0)), .v (.one (.d (.int .i64) x0))] [some (.box [(.d .str x1), (.d (.int .i64) x2), (.d (.sl T_api_Col) x3)])] some = transomlaw09_Few.s4c g22 s0 s1 s2 s3 s4 x0 x1 x2 x3 (fun r => some ⟨.v (.one (.d (.int .i64) r)), []⟩) := by
  kernel_rfl
mutual
def transomlaw09_Few.s0 : Nat → Bool → ByteArray → Int → (List D_api_Col) → Option Int
  | 0, _, _, _, _ => none
  | k + 1, x0, x1, x2, x3 => transomlaw09_Few.s0c (transomlaw04_Few.f k) (transomlaw09_Few.s0 k) (transomlaw09_Few.s1 k) (transomlaw09_Few.s2 k) (transomlaw09_Few.s3 k) (transomlaw09_Few.s4 k) x0 x1 x2 x3 some
def transomlaw09_Few.s1 : Nat → ByteArray → Int → (List D_api_Col) → Option Int
  | 0, _, _, _ => none
  | k + 1, x0, x1, x2 => transomlaw09_Few.s1c (transomlaw04_Few.f k) (transomlaw09_Few.s0 k) (transomlaw09_Few.s1 k) (transomlaw09_Few.s2 k) (transomlaw09_Few.s3 k) (transomlaw09_Few.s4 k) x0 x1 x2 some
def transomlaw09_Few.s2 : Nat → Int → ByteArray → Int → (List D_api_Col) → Option Int
  | 0, _, _, _, _ => none
  | k + 1, x0, x1, x2, x3 => transomlaw09_Few.s2c (transomlaw04_Few.f k) (transomlaw09_Few.s0 k) (transomlaw09_Few.s1 k) (transomlaw09_Few.s2 k) (transomlaw09_Few.s3 k) (transomlaw09_Few.s4 k) x0 x1 x2 x3 some
def transomlaw09_Few.s3 : Nat → Int → Bool → ByteArray → Int → (List D_api_Col) → Option Int
  | 0, _, _, _, _, _ => none
  | k + 1, x0, x1, x2, x3, x4 => transomlaw09_Few.s3c (transomlaw04_Few.f k) (transomlaw09_Few.s0 k) (transomlaw09_Few.s1 k) (transomlaw09_Few.s2 k) (transomlaw09_Few.s3 k) (transomlaw09_Few.s4 k) x0 x1 x2 x3 x4 some
def transomlaw09_Few.s4 : Nat → Int → ByteArray → Int → (List D_api_Col) → Option Int
  | 0, _, _, _, _ => none
  | k + 1, x0, x1, x2, x3 => transomlaw09_Few.s4c (transomlaw04_Few.f k) (transomlaw09_Few.s0 k) (transomlaw09_Few.s1 k) (transomlaw09_Few.s2 k) (transomlaw09_Few.s3 k) (transomlaw09_Few.s4 k) x0 x1 x2 x3 some
end
def transomlaw09_Few.f (k : Nat) (a0 : ByteArray) (a1 : Int) (a2 : List D_api_Col) : Option Int := transomlaw09_Few.c (transomlaw04_Few.f k) (transomlaw09_Few.s0 k) (transomlaw09_Few.s1 k) (transomlaw09_Few.s2 k) (transomlaw09_Few.s3 k) (transomlaw09_Few.s4 k) a0 a1 a2 some
theorem transomlaw09_Few.is {g22 : G_transomlaw04_Few} {s0 : S_transomlaw09_Few_0} {s1 : S_transomlaw09_Few_1} {s2 : S_transomlaw09_Few_2} {s3 : S_transomlaw09_Few_3} {s4 : S_transomlaw09_Few_4} : FnIs (env_transomlaw09_Few g22 s0 s1 s2 s3 s4) 6 Go.Proofs.Tryd.f6 := ⟨Go.Proofs.Tryd.func6, rfl, rfl, rfl, by decide⟩
theorem transomlaw09_Few.envok {g22 : G_transomlaw04_Few} {s0 : S_transomlaw09_Few_0} {s1 : S_transomlaw09_Few_1} {s2 : S_transomlaw09_Few_2} {s3 : S_transomlaw09_Few_3} {s4 : S_transomlaw09_Few_4} (h22 : CtOK Go.Proofs.Tryd.prog 22 (ct_transomlaw04_Few g22)) : EnvOK (env_transomlaw09_Few g22 s0 s1 s2 s3 s4).toEnv := by
  intro f c h
  simp only [env_transomlaw09_Few] at h
  split at h
  · rename_i e; subst e; cases h; exact h22
  simp at h
noncomputable abbrev transomlaw09_Few.E (k : Nat) : FEnv := env_transomlaw09_Few (transomlaw04_Few.f k) (transomlaw09_Few.s0 k) (transomlaw09_Few.s1 k) (transomlaw09_Few.s2 k) (transomlaw09_Few.s3 k) (transomlaw09_Few.s4 k)
theorem transomlaw09_Few.hE (k : Nat) : EnvOK (transomlaw09_Few.E k).toEnv := transomlaw09_Few.envok (transomlaw04_Few.ok k)
theorem transomlaw09_Few.segs_ok : ∀ k, ∀ s ∈ (transomlaw09_Few.E k).segs, SegOK (transomlaw09_Few.E k) Go.Proofs.Tryd.f6 s
  | 0 => by
    intro s hs
    simp only [transomlaw09_Few.E, env_transomlaw09_Few, List.mem_cons, List.not_mem_nil, or_false] at hs
    rcases hs with rfl | rfl | rfl | rfl | rfl
    · intro tvs blks res h; exfalso; simp only [seg_transomlaw09_Few_0] at h; split at h <;> simp [transomlaw09_Few.s0] at h
    · intro tvs blks res h; exfalso; simp only [seg_transomlaw09_Few_1] at h; split at h <;> simp [transomlaw09_Few.s1] at h
    · intro tvs blks res h; exfalso; simp only [seg_transomlaw09_Few_2] at h; split at h <;> simp [transomlaw09_Few.s2] at h
    · intro tvs blks res h; exfalso; simp only [seg_transomlaw09_Few_3] at h; split at h <;> simp [transomlaw09_Few.s3] at h
    · intro tvs blks res h; exfalso; simp only [seg_transomlaw09_Few_4] at h; split at h <;> simp [transomlaw09_Few.s4] at h
  | k + 1 => by
    intro s hs
    simp only [transomlaw09_Few.E, env_transomlaw09_Few, List.mem_cons, List.not_mem_nil, or_false] at hs
    rcases hs with rfl | rfl | rfl | rfl | rfl
    · refine seg_of_ev (E := transomlaw09_Few.E k) (transomlaw09_Few.hE k) ⟨transomlaw09_Few.is.rvs⟩ (transomlaw09_Few.segs_ok k) ?_
      intro tvs blks res h
      simp only [seg_transomlaw09_Few_0] at h
      split at h
      · exact (transomlaw09_Few.s0_ev.trans transomlaw09_Few.s0c_bind).trans h
      · simp at h
    · refine seg_of_ev (E := transomlaw09_Few.E k) (transomlaw09_Few.hE k) ⟨transomlaw09_Few.is.rvs⟩ (transomlaw09_Few.segs_ok k) ?_
      intro tvs blks res h
      simp only [seg_transomlaw09_Few_1] at h
      split at h
      · exact (transomlaw09_Few.s1_ev.trans transomlaw09_Few.s1c_bind).trans h
      · simp at h
    · refine seg_of_ev (E := transomlaw09_Few.E k) (transomlaw09_Few.hE k) ⟨transomlaw09_Few.is.rvs⟩ (transomlaw09_Few.segs_ok k) ?_
      intro tvs blks res h
      simp only [seg_transomlaw09_Few_2] at h
      split at h
      · exact (transomlaw09_Few.s2_ev.trans transomlaw09_Few.s2c_bind).trans h
      · simp at h
    · refine seg_of_ev (E := transomlaw09_Few.E k) (transomlaw09_Few.hE k) ⟨transomlaw09_Few.is.rvs⟩ (transomlaw09_Few.segs_ok k) ?_
      intro tvs blks res h
      simp only [seg_transomlaw09_Few_3] at h
      split at h
      · exact (transomlaw09_Few.s3_ev.trans transomlaw09_Few.s3c_bind).trans h
      · simp at h
    · refine seg_of_ev (E := transomlaw09_Few.E k) (transomlaw09_Few.hE k) ⟨transomlaw09_Few.is.rvs⟩ (transomlaw09_Few.segs_ok k) ?_
      intro tvs blks res h
      simp only [seg_transomlaw09_Few_4] at h
      split at h
      · exact (transomlaw09_Few.s4_ev.trans transomlaw09_Few.s4c_bind).trans h
      · simp at h
theorem transomlaw09_Few.ok (k : Nat) : CtOK Go.Proofs.Tryd.prog 6 (ct_transomlaw09_Few (transomlaw09_Few.f k)) := by
  refine ct_of_ev (E := transomlaw09_Few.E k) transomlaw09_Few.is (transomlaw09_Few.hE k) (transomlaw09_Few.segs_ok k) rfl ?_
  intro tvs blks res h
  simp only [ct_transomlaw09_Few] at h
  split at h
  · exact (transomlaw09_Few.ev.trans transomlaw09_Few.c_bind).trans h
  · simp at h

/-! ### schema_number: function 25 (by hand) -/
def ct_schema_number : Ct where
  nin := 0
  mv := []
  F := fun tvs blks {β} K => match tvs, blks with
    | [.v (.one (.raw .nilIface))], [] => K ⟨.v (.one (.d (.int .i64) (0 : Int))), []⟩
    | [.v (.one (.ifc 78 true (.pair (.int .i64) .unit) x))], [] => K ⟨.v (.one (.d (.int .i64) x.1)), []⟩
    | _, _ => none
  legit := fun tvs blks K r h => by
    split at h
    · exact ⟨_, rfl, h⟩
    · exact ⟨_, rfl, h⟩
    · simp at h
/-! errors.As at the one target that the program has: a variable of type bad (after the guide's worked example 'toyas') -/
section
open Go.RowKit Go.Extern.Stop Go.Stop Go.Extern
abbrev schema_number.rt (n : Nat) : Value := .pointer (some ⟨2, n, none⟩)
theorem schema_number.as_nil (t : Value) (w : World) : Calls Go.Proofs.Tryd.prog 48 #[.nilIface, t] w fun e w' => e = .returned (.bool false) ∧ w' = w := by
  go_enter Go.Proofs.Tryd.func48, Go.Proofs.Tryd.ntmps48
  go_wp2
  go_ret
  exact ⟨rfl, rfl⟩
theorem schema_number.valueOfP (t : Addr) (w : World) : (ReflectliteValue.unpack (.iface 80 (.pointer (some t)))).run Go.Proofs.Tryd.prog w
    = .ok (.agg #[schema_number.rt 80, .pointer (some ⟨w.heap.size, 0, none⟩), .int .u64 150]) (w.alloc (.cells #[.pointer (some t)] 80)) := by kernel_rfl
theorem schema_number.typeP (a : Addr) (w : World) : (ReflectliteValue.methodAny (ReflectliteValue.valueError "reflectlite.Value.Type" 0) (fun t _ _ _ => ReflectliteType.toType t) #[.agg #[schema_number.rt 80, .pointer (some a), .int .u64 150]]).run Go.Proofs.Tryd.prog w
    = .ok (.iface 123 (.agg #[schema_number.rt 80])) w := by kernel_rfl
theorem schema_number.methodKind (h : Value) (w : World) : (Go.method 277 123 (.agg #[h]) "Kind").run Go.Proofs.Tryd.prog w = .ok (108, h) w := by kernel_rfl
theorem schema_number.kindP (w : World) : ((ReflectliteType.abiMethod fun t => (fun a : Nat => Value.int IntKind.u8 (a : Int)) <$> Rtype.kind t) #[schema_number.rt 80]).run Go.Proofs.Tryd.prog w = .ok (.int .u8 22) w := by kernel_rfl
theorem schema_number.kindB (w : World) : ((ReflectliteType.abiMethod fun t => (fun a : Nat => Value.int IntKind.u8 (a : Int)) <$> Rtype.kind t) #[schema_number.rt 78]).run Go.Proofs.Tryd.prog w = .ok (.int .u8 25) w := by kernel_rfl
theorem schema_number.rlm (z : Sem Value) (f : TypeId → Addr → Nat → Nat → Sem Value) (v : Value) :
    ReflectliteValue.method z f #[v] = (do match ← ReflectliteValue.parts v with | none => z | some (t, a, fl) => f t a fl (fl % 32)) := rfl
theorem schema_number.partsP (a : Addr) (w : World) : (ReflectliteValue.parts (.agg #[schema_number.rt 80, .pointer (some a), .int .u64 150])).run Go.Proofs.Tryd.prog w = .ok (some (80, a, 150)) w := by kernel_rfl
theorem schema_number.isNilP (a p : Addr) (W : World) (ha : W.cell? a = some (.pointer (some p))) :
    (ReflectliteValue.method (ReflectliteValue.valueError "reflectlite.Value.IsNil" 0) ReflectliteValue.isNil #[.agg #[schema_number.rt 80, .pointer (some a), .int .u64 150]]).run Go.Proofs.Tryd.prog W = .ok (.bool false) W := by
  rw [schema_number.rlm]
  simp only [Sem.run_bind, schema_number.partsP, Result.andThen]
  simp [ReflectliteValue.isNil, loadVar, isAgg, underlying, Go.Proofs.Tryd.underlying80, ha, Result.andThen]
theorem schema_number.methodElem (h : Value) (w : World) : (Go.method 277 123 (.agg #[h]) "Elem").run Go.Proofs.Tryd.prog w = .ok (118, .agg #[h]) w := by kernel_rfl
theorem schema_number.methodImplements (h : Value) (w : World) : (Go.method 277 123 (.agg #[h]) "Implements").run Go.Proofs.Tryd.prog w = .ok (119, .agg #[h]) w := by kernel_rfl
theorem schema_number.methodAssignableTo (h : Value) (w : World) : (Go.method 277 123 (.agg #[h]) "AssignableTo").run Go.Proofs.Tryd.prog w = .ok (116, .agg #[h]) w := by kernel_rfl
theorem schema_number.elemP (w : World) : (ReflectliteType.method ReflectliteType.elem #[.agg #[schema_number.rt 80]]).run Go.Proofs.Tryd.prog w = .ok (.iface 123 (.agg #[schema_number.rt 78])) w := by kernel_rfl
theorem schema_number.implementsB (w : World) : (ReflectliteType.relation "Implements" ReflectliteType.implements_ #[.agg #[schema_number.rt 78], .iface 123 (.agg #[schema_number.rt 55])]).run Go.Proofs.Tryd.prog w = .ok (.bool true) w := by kernel_rfl
theorem schema_number.typeOfB (v : Value) (w : World) : (ReflectliteType.typeOf #[.iface 78 v]).run Go.Proofs.Tryd.prog w = .ok (.iface 123 (.agg #[schema_number.rt 78])) w := by kernel_rfl
theorem schema_number.assignableB (w : World) : (ReflectliteType.relation "AssignableTo" ReflectliteType.assignableTo #[.agg #[schema_number.rt 78], .iface 123 (.agg #[schema_number.rt 78])]).run Go.Proofs.Tryd.prog w = .ok (.bool true) w := by kernel_rfl
theorem schema_number.valueOfB (n : Int) (w : World) : (ReflectliteValue.unpack (.iface 78 (.agg #[.int .i64 n]))).run Go.Proofs.Tryd.prog w
    = .ok (.agg #[schema_number.rt 78, .pointer (some ⟨w.heap.size, 0, none⟩), .int .u64 153]) (w.alloc (.cells #[.int .i64 n] 78)) := by kernel_rfl
theorem schema_number.elemOfP (w : World) : (Rtype.elem? 80).run Go.Proofs.Tryd.prog w = .ok (some 78) w := by kernel_rfl
theorem schema_number.mkB (p : Addr) (w : World) : (ReflectliteValue.mk 78 p ReflectliteValue.flagAddr).run Go.Proofs.Tryd.prog w = .ok (.agg #[schema_number.rt 78, .pointer (some p), .int .u64 409]) w := by kernel_rfl
theorem schema_number.elemVP (a p : Addr) (W : World) (ha : W.cell? a = some (.pointer (some p))) :
    (ReflectliteValue.method (ReflectliteValue.valueError "reflectlite.Value.Elem" 0) ReflectliteValue.elem #[.agg #[schema_number.rt 80, .pointer (some a), .int .u64 150]]).run Go.Proofs.Tryd.prog W
      = .ok (.agg #[schema_number.rt 78, .pointer (some p), .int .u64 409]) W := by
  rw [schema_number.rlm]
  simp only [Sem.run_bind, schema_number.partsP, Result.andThen]
  simp [ReflectliteValue.elem, loadVar, isAgg, underlying, Go.Proofs.Tryd.underlying80, ha, Result.andThen, schema_number.elemOfP, schema_number.mkB]
theorem schema_number.rls (v x : Value) : ReflectliteValue.set #[v, x] = (do
    let (some (dst, a, fl), some (src, b, _)) := (← ReflectliteValue.parts v, ← ReflectliteValue.parts x)
      | unsupported (.noEntry "extern/(internal/reflectlite.Value).Set.zeroValue")
    if fl / ReflectliteValue.flagAddr % 2 == 0 then unsupported (.noEntry "extern/(internal/reflectlite.Value).Set.unaddressable")
    let val ← loadVar src b
    if ← Rtype.directlyAssignable dst src then storeVar dst a val
    else if ← Rtype.implements dst src then
      if (← Rtype.kind src) == 20 then
        match val with
        | .nilIface => unsupported (.noEntry "extern/reflectlite: a nil value of one interface type handed on as a value of another")
        | _ => storeVar dst a val
      else storeVar dst a (.iface src val)
    else panicString ("reflectlite.Set: value of type " ++ (← Rtype.spelt src) ++ " is not assignable to type " ++ (← Rtype.spelt dst))
    pure (.tuple #[])) := rfl
theorem schema_number.partsBa (a : Addr) (w : World) : (ReflectliteValue.parts (.agg #[schema_number.rt 78, .pointer (some a), .int .u64 409])).run Go.Proofs.Tryd.prog w = .ok (some (78, a, 409)) w := by kernel_rfl
theorem schema_number.partsB (a : Addr) (w : World) : (ReflectliteValue.parts (.agg #[schema_number.rt 78, .pointer (some a), .int .u64 153])).run Go.Proofs.Tryd.prog w = .ok (some (78, a, 153)) w := by kernel_rfl
theorem schema_number.directB (w : World) : (Rtype.directlyAssignable 78 78).run Go.Proofs.Tryd.prog w = .ok true w := by kernel_rfl
theorem schema_number.sizeB (w : World) : (sizeOf 78).run Go.Proofs.Tryd.prog w = .ok 1 w := by kernel_rfl
theorem schema_number.setB (tb bb : Nat) (n : Int) (old : Value) (W : World) (hb : W.cell? ⟨bb, 0, none⟩ = some (.int .i64 n)) (ht : W.cell? ⟨tb, 0, none⟩ = some old) (hf : W.frozen? ⟨tb, 0, none⟩ = false) :
    (ReflectliteValue.set #[.agg #[schema_number.rt 78, .pointer (some ⟨tb, 0, none⟩), .int .u64 409], .agg #[schema_number.rt 78, .pointer (some ⟨bb, 0, none⟩), .int .u64 153]]).run Go.Proofs.Tryd.prog W
      = .ok (.tuple #[]) (W.setCell ⟨tb, 0, none⟩ (.int .i64 n)) := by
  rw [schema_number.rls]
  have hl := run_loadCells_list (P := Go.Proofs.Tryd.prog) W ⟨bb, 0, none⟩ [.int .i64 n] (fun j v hj => by
    match j with
    | 0 => simp at hj; subst hj; simpa [Addr.add] using hb
    | j + 1 => simp at hj)
  simp only [List.length_singleton] at hl
  simp only [Sem.run_bind, schema_number.partsBa, schema_number.partsB, Result.andThen]
  simp [ReflectliteValue.flagAddr, loadVar, isAgg, underlying, Go.Proofs.Tryd.underlying78, hl, schema_number.sizeB, Result.andThen, schema_number.directB, storeVar, Value.cells, storeCells, Addr.add]
  rw [run_store Go.Proofs.Tryd.prog W ⟨tb, 0, none⟩ _ _ (by rfl)]
  simp [ht, hf]
set_option maxHeartbeats 4000000 in
theorem schema_number.as_hit (n : Int) (tb : Nat) (old : Value) (w : World) (hg : w.cell? ⟨0, 0, none⟩ = some (.iface 123 (.agg #[schema_number.rt 55]))) (ht0 : w.cell? ⟨tb, 0, none⟩ = some old) (hf0 : w.frozen? ⟨tb, 0, none⟩ = false) :
    Calls Go.Proofs.Tryd.prog 48 #[.iface 78 (.agg #[.int .i64 n]), .iface 80 (.pointer (some ⟨tb, 0, none⟩))] w fun ev w' => ev = .returned (.bool true) ∧ w' = ((((w.alloc (.cells #[.pointer (some ⟨tb, 0, none⟩)] 80)).alloc (.cells #[schema_number.rt 80, .pointer (some ⟨w.heap.size, 0, none⟩), .int .u64 150] 103)).alloc (.cells #[schema_number.rt 80, .pointer (some ⟨w.heap.size, 0, none⟩), .int .u64 150] 103)).alloc (.cells #[.int .i64 n] 78)).setCell ⟨tb, 0, none⟩ (.int .i64 n) := by
  have h6 := @run_callFunc_extern Go.Proofs.Tryd.prog 67 _ (fun args => ReflectliteValue.unpack (args.getD 0 (.tuple #[]))) Go.Proofs.Tryd.func67 (by kernel_rfl) (by kernel_rfl) (by kernel_rfl) (by kernel_rfl)
  have h7 := @run_callFunc_extern Go.Proofs.Tryd.prog 68 _ (ReflectliteValue.methodAny (ReflectliteValue.valueError "reflectlite.Value.Type" 0) (fun t _ _ _ => ReflectliteType.toType t)) Go.Proofs.Tryd.func68 (by kernel_rfl) (by kernel_rfl) (by kernel_rfl) (by kernel_rfl)
  have h8 := @run_callFunc_extern Go.Proofs.Tryd.prog 69 _ (ReflectliteValue.method (ReflectliteValue.valueError "reflectlite.Value.IsNil" 0) ReflectliteValue.isNil) Go.Proofs.Tryd.func69 (by kernel_rfl) (by kernel_rfl) (by kernel_rfl) (by kernel_rfl)
  have h27 := @run_callFunc_extern Go.Proofs.Tryd.prog 108 _ (ReflectliteType.abiMethod fun t => do pure (.int .u8 (← Rtype.kind t))) Go.Proofs.Tryd.func108 (by kernel_rfl) (by kernel_rfl) (by kernel_rfl) (by kernel_rfl)
  have h37 := @run_callFunc_extern Go.Proofs.Tryd.prog 118 _ (ReflectliteType.method ReflectliteType.elem) Go.Proofs.Tryd.func118 (by kernel_rfl) (by kernel_rfl) (by kernel_rfl) (by kernel_rfl)
  have h38 := @run_callFunc_extern Go.Proofs.Tryd.prog 119 _ (ReflectliteType.relation "Implements" ReflectliteType.implements_) Go.Proofs.Tryd.func119 (by kernel_rfl) (by kernel_rfl) (by kernel_rfl) (by kernel_rfl)
  have h10 := @run_callFunc_extern Go.Proofs.Tryd.prog 83 _ ReflectliteType.typeOf Go.Proofs.Tryd.func83 (by kernel_rfl) (by kernel_rfl) (by kernel_rfl) (by kernel_rfl)
  have h35 := @run_callFunc_extern Go.Proofs.Tryd.prog 116 _ (ReflectliteType.relation "AssignableTo" ReflectliteType.assignableTo) Go.Proofs.Tryd.func116 (by kernel_rfl) (by kernel_rfl) (by kernel_rfl) (by kernel_rfl)
  have h11 := @run_callFunc_extern Go.Proofs.Tryd.prog 84 _ (ReflectliteValue.method (ReflectliteValue.valueError "reflectlite.Value.Elem" 0) ReflectliteValue.elem) Go.Proofs.Tryd.func84 (by kernel_rfl) (by kernel_rfl) (by kernel_rfl) (by kernel_rfl)
  have h12 := @run_callFunc_extern Go.Proofs.Tryd.prog 85 _ ReflectliteValue.set Go.Proofs.Tryd.func85 (by kernel_rfl) (by kernel_rfl) (by kernel_rfl) (by kernel_rfl)
  have tO := schema_number.typeOfB
  have mA := schema_number.methodAssignableTo
  have a25 := schema_number.assignableB
  have v25 := schema_number.valueOfB
  have f6 := schema_number.valueOfP
  have f7 := schema_number.typeP
  have mK := schema_number.methodKind
  have mE := schema_number.methodElem
  have mI := schema_number.methodImplements
  have k27 := schema_number.kindP
  have k25 := schema_number.kindB
  have e27 := schema_number.elemP
  have i25 := schema_number.implementsB
  have n8 := schema_number.isNilP ⟨w.heap.size, 0, none⟩ ⟨tb, 0, none⟩ ((w.alloc (.cells #[.pointer (some ⟨tb, 0, none⟩)] 80)).alloc (.cells #[schema_number.rt 80, .pointer (some ⟨w.heap.size, 0, none⟩), .int .u64 150] 103)) (by simp)
  have hlt : 0 < w.heap.size := by
    rcases Nat.eq_zero_or_pos w.heap.size with h0 | h
    · simp [World.cell?, h0] at hg
    · exact h
  have hg2 : ((w.alloc (.cells #[.pointer (some ⟨tb, 0, none⟩)] 80)).alloc (.cells #[schema_number.rt 80, .pointer (some ⟨w.heap.size, 0, none⟩), .int .u64 150] 103)).cell? ⟨0, 0, none⟩ = some (.iface 123 (.agg #[schema_number.rt 55])) := by
    rw [World.cell?_alloc_lt _ _ ⟨0, 0, none⟩ (by simp), World.cell?_alloc_lt _ _ ⟨0, 0, none⟩ hlt]; exact hg
  have htl : tb < w.heap.size := by
    rcases Nat.lt_or_ge tb w.heap.size with h | h
    · exact h
    · simp [World.cell?, Array.getElem?_eq_none h] at ht0
  have el := schema_number.elemVP ⟨w.heap.size, 0, none⟩ ⟨tb, 0, none⟩ (((w.alloc (.cells #[.pointer (some ⟨tb, 0, none⟩)] 80)).alloc (.cells #[schema_number.rt 80, .pointer (some ⟨w.heap.size, 0, none⟩), .int .u64 150] 103)).alloc (.cells #[schema_number.rt 80, .pointer (some ⟨w.heap.size, 0, none⟩), .int .u64 150] 103)) (by rw [World.cell?_alloc_lt _ _ ⟨w.heap.size, 0, none⟩ (by simp; omega)]; simp)
  have st := schema_number.setB tb (w.heap.size + 1 + 1 + 1) n old ((((w.alloc (.cells #[.pointer (some ⟨tb, 0, none⟩)] 80)).alloc (.cells #[schema_number.rt 80, .pointer (some ⟨w.heap.size, 0, none⟩), .int .u64 150] 103)).alloc (.cells #[schema_number.rt 80, .pointer (some ⟨w.heap.size, 0, none⟩), .int .u64 150] 103)).alloc (.cells #[.int .i64 n] 78))
    (by rw [World.cell?_alloc_at _ _ _ _ (by simp)]; rfl)
    (by rw [World.cell?_alloc_lt _ _ ⟨tb, 0, none⟩ (by simp; omega), World.cell?_alloc_lt _ _ ⟨tb, 0, none⟩ (by simp; omega), World.cell?_alloc_lt _ _ ⟨tb, 0, none⟩ (by simp; omega), World.cell?_alloc_lt _ _ ⟨tb, 0, none⟩ htl]; exact ht0)
    (by rw [World.frozen?_alloc_old _ _ ⟨tb, 0, none⟩ (by simp; omega), World.frozen?_alloc_old _ _ ⟨tb, 0, none⟩ (by simp; omega), World.frozen?_alloc_old _ _ ⟨tb, 0, none⟩ (by simp; omega), World.frozen?_alloc_old _ _ ⟨tb, 0, none⟩ (Nat.ne_of_lt htl)]; exact hf0)
  go_enter Go.Proofs.Tryd.func48, Go.Proofs.Tryd.ntmps48
  go_wp2
  refine wp_loop_rounds 1 ?_
  rw [rounds_succ]
  go_wp2
  go_ret
  exact ⟨rfl, rfl⟩
theorem schema_number.num_nil (w : World) : Calls Go.Proofs.Tryd.prog 25 #[.nilIface] w fun e w' => e = .returned (.int .i64 0) ∧ Below w.heap.size w w' := by
  go_enter Go.Proofs.Tryd.func25, Go.Proofs.Tryd.ntmps25
  go_wp2_with (first | (go_at_call 48; refine (schema_number.as_nil _ _).mono ?_; rintro e w' ⟨rfl, rfl⟩))
  go_ret
  exact ⟨rfl, (Below.refl _ _).alloc (Nat.le_refl _) _⟩
set_option maxHeartbeats 4000000 in
theorem schema_number.num_hit (n : Int) (w : World) (hg : w.cell? ⟨0, 0, none⟩ = some (.iface 123 (.agg #[schema_number.rt 55]))) : Calls Go.Proofs.Tryd.prog 25 #[.iface 78 (.agg #[.int .i64 n])] w fun e w' => e = .returned (.int .i64 n) ∧ Below w.heap.size w w' := by
  have hlt : 0 < w.heap.size := by
    rcases Nat.eq_zero_or_pos w.heap.size with h0 | h
    · simp [World.cell?, h0] at hg
    · exact h
  have hgA : (w.alloc (.cells #[.int .i64 0] 78)).cell? ⟨0, 0, none⟩ = some (.iface 123 (.agg #[schema_number.rt 55])) := by
    rw [World.cell?_alloc_lt _ _ ⟨0, 0, none⟩ hlt]; exact hg
  have htA : (w.alloc (.cells #[.int .i64 0] 78)).cell? ⟨w.heap.size, 0, none⟩ = some (.int .i64 0) := by simp
  have hfA : (w.alloc (.cells #[.int .i64 0] 78)).frozen? ⟨w.heap.size, 0, none⟩ = false := by simp
  go_enter Go.Proofs.Tryd.func25, Go.Proofs.Tryd.ntmps25
  go_wp2_with (first | (go_at_call 48; refine (schema_number.as_hit n _ _ _ hgA htA hfA).mono ?_; rintro e w' ⟨rfl, rfl⟩))
  go_ret
  refine ⟨rfl, ?_⟩
  try refine Below.setCell ?_ (Nat.le_refl _) _
  refine Below.alloc (Below.alloc (Below.alloc (Below.alloc (Below.alloc (Below.refl _ _) (Nat.le_refl _) _) ?_ _) ?_ _) ?_ _) ?_ _ <;> (simp; try omega)
end
theorem schema_number.ok (k : Nat) : CtOK Go.Proofs.Tryd.prog 25 ct_schema_number := by
  have enters : ∀ (args : Array Value) (w : World), (callFunc 25 args).run Go.Proofs.Tryd.prog w = .ok (.enter 25 args) w := fun args w => Go.Proofs.enters_of Go.Proofs.Tryd.func25 (by kernel_rfl) rfl args w
  intro tvs blks res hF w S ρ H vals hm hv
  have fin : ∀ (n : Int), res = ⟨.v (.one (.d (.int .i64) n)), []⟩ → blks = [] → Calls Go.Proofs.Tryd.prog 25 vals.toArray w (fun e w' => e = .returned (.int .i64 n) ∧ RowKit.Below w.heap.size w w') →
      CallsTo Go.Proofs.Tryd.prog 25 vals.toArray w fun e w' => ∃ v S' ρ' H', e = .returned v ∧ Mem (pkgCx w S ρ H blks ct_schema_number.nin) w' S' ρ' H' (fun n => res.blks[n]?) ∧ RepTV w' S' ρ' res.tv v := by
    rintro n rfl rfl hc
    left
    refine ⟨enters _ _, hc.mono fun e w' ⟨h1, h2⟩ => ⟨_, S, ρ, H, h1, ?_, rfl⟩⟩
    have : (fun n => ([] : List (Option Blk))[n]?) = live [] := by funext n; simp [live]
    rw [this]; exact hm.below h2
  simp only [ct_schema_number] at hF
  split at hF
  · simp only [Option.some.injEq] at hF
    obtain ⟨v0, m0, rfl, h0, hv⟩ := All2.cons_left hv
    cases All2.nil_left hv
    obtain ⟨rfl, _⟩ := h0
    exact fin 0 hF.symm rfl (schema_number.num_nil w)
  · rename_i x
    simp only [Option.some.injEq] at hF
    obtain ⟨v0, m0, rfl, h0, hv⟩ := All2.cons_left hv
    cases All2.nil_left hv
    obtain ⟨us, u, rfl, ⟨v1, v2, rfl, h1, h2⟩, rfl⟩ := h0
    simp only [Rd] at h1 h2
    subst h1; subst h2
    obtain ⟨_, hg⟩ := hm.gl _ (List.mem_singleton.2 rfl)
    exact fin x.1 hF.symm rfl (schema_number.num_hit x.1 w hg)
  · simp at hF

/-! ### values_only: function 61 -/
abbrev G_values_only : Type := Int → Int → Int → ByteArray → Option (Int × Int × Int × ByteArray)
def ct_values_only (g : G_values_only) : Ct where
  nin := 0
  mv := []
  F := fun tvs blks {β} K => match tvs, blks with
    | [.v (.agg [(.d (.int .i64) a0), (.d (.int .i64) a1), (.d (.int .u64) a2), (.d .str a3)])], [] => (g a0 a1 a2 a3).bind fun r => K ⟨.v (.agg [(.d (.int .i64) r.1), (.d (.int .i64) r.2.1), (.d (.int .u64) r.2.2.1), (.d .str r.2.2.2)]), []⟩
    | _, _ => none
  legit := fun tvs blks K r h => by
    split at h
    · obtain ⟨x, hx, hk⟩ := Option.bind_eq_some_iff.1 h
      refine ⟨_, ?_, hk⟩
      simp only [hx, Option.bind_some]
    · simp at h
abbrev S_values_only_0 : Type := Int → Bool → Int → Int → Int → ByteArray → Int → Int → Int → ByteArray → Int → Int → Int → ByteArray → Option (Int × Int × Int × ByteArray)
def seg_values_only_0 (g : S_values_only_0) : Seg where
  path := [1, 4, 1, 0, 1, 1]
  prep := []
  keep := [1, 2, 3, 8, 9]
  F := fun tvs blks {β} K => match tvs, blks with
    | [.v (.one (.ptr 0 0)), .v (.one (.ptr 1 0)), .v (.one (.ptr 2 0)), .v (.one (.d (.int .i64) x0)), .v (.one (.d .bool x1))], [some (.box [(.d (.int .i64) x2), (.d (.int .i64) x3), (.d (.int .u64) x4), (.d .str x5)]), some (.box [(.d (.int .i64) x6), (.d (.int .i64) x7), (.d (.int .u64) x8), (.d .str x9)]), some (.box [(.d (.int .i64) x10), (.d (.int .i64) x11), (.d (.int .u64) x12), (.d .str x13)])] => (g x0 x1 x2 x3 x4 x5 x6 x7 x8 x9 x10 x11 x12 x13).bind fun r => K ⟨.v (.agg [(.d (.int .i64) r.1), (.d (.int .i64) r.2.1), (.d (.int .u64) r.2.2.1), (.d .str r.2.2.2)]), []⟩
    | _, _ => none
  legit := fun tvs blks K r h => by
    split at h
    · obtain ⟨x, hx, hk⟩ := Option.bind_eq_some_iff.1 h
      refine ⟨_, ?_, hk⟩
      simp only [hx, Option.bind_some]
    · simp at h
noncomputable def env_values_only  (s0 : S_values_only_0) : FEnv := { P := Go.Proofs.Tryd.prog, ct := fun m => none, N := 27, body := Go.Proofs.Tryd.f61.body.getD .skip, rvs := [.cell 2 31], rts := [31], nin := 0, rmv := [], segs := [seg_values_only_0 s0] }
def values_only.c {β : Type}  (s0 : S_values_only_0) (a0 : Int) (a1 : Int) (a2 : Int) (a3 : ByteArray) (ret : (Int × Int × Int × ByteArray) → Option β) : Option β := (bif (a0 == (1 : Int)) then ((s0 a0 (a0 == (1 : Int)) a0 a1 a2 a3 (0 : Int) (0 : Int) (0 : Int) (ByteArray.mk (List.toArray [])) a0 (0 : Int) (0 : Int) (ByteArray.mk (List.toArray []))).bind ret) else ((s0 a0 (a0 == (2 : Int)) a0 a1 a2 a3 (0 : Int) (0 : Int) (0 : Int) (ByteArray.mk (List.toArray [])) a0 (0 : Int) (0 : Int) (ByteArray.mk (List.toArray []))).bind ret))
def values_only.s0c {β : Type}  (s0 : S_values_only_0) (x0 : Int) (x1 : Bool) (x2 : Int) (x3 : Int) (x4 : Int) (x5 : ByteArray) (x6 : Int) (x7 : Int) (x8 : Int) (x9 : ByteArray) (x10 : Int) (x11 : Int) (x12 : Int) (x13 : ByteArray) (ret : (Int × Int × Int × ByteArray) → Option β) : Option β := (bif x1 then (ret (x10, x3, x12, x13)) else (bif (x0 == (3 : Int)) then (ret (x10, x11, x4, x13)) else (bif (x0 == (4 : Int)) then (bif (x0 == (4 : Int)) then (ret (x10, x11, x12, x5)) else (ret (x10, x11, x12, x13))) else (bif (x0 == (5 : Int)) then (ret (x10, x11, x12, x5)) else (ret (x10, x11, x12, x13))))))
theorem values_only.c_bind {β : Type}  {s0 : S_values_only_0} {a0 : Int} {a1 : Int} {a2 : Int} {a3 : ByteArray} {ret : (Int × Int × Int × ByteArray) → Option β} : values_only.c  s0 a0 a1 a2 a3 ret = (values_only.c  s0 a0 a1 a2 a3 some).bind ret := by
  simp only [values_only.c, bif_bind, sum_bind, Option.bind_assoc, Option.bind_some, Option.bind_none, Option.bind_fun_some]
theorem values_only.s0c_bind {β : Type}  {s0 : S_values_only_0} {x0 : Int} {x1 : Bool} {x2 : Int} {x3 : Int} {x4 : Int} {x5 : ByteArray} {x6 : Int} {x7 : Int} {x8 : Int} {x9 : ByteArray} {x10 : Int} {x11 : Int} {x12 : Int} {x13 : ByteArray} {ret : (Int × Int × Int × ByteArray) → Option β} : values_only.s0c  s0 x0 x1 x2 x3 x4 x5 x6 x7 x8 x9 x10 x11 x12 x13 ret = (values_only.s0c  s0 x0 x1 x2 x3 x4 x5 x6 x7 x8 x9 x10 x11 x12 x13 some).bind ret := by
  simp only [values_only.s0c, bif_bind, sum_bind, Option.bind_assoc, Option.bind_some, Option.bind_none, Option.bind_fun_some]
theorem values_only.ev  {s0 : S_values_only_0} {a0 : Int} {a1 : Int} {a2 : Int} {a3 : ByteArray} : evAt (env_values_only  s0) [] [0] [.v (.agg [(.d (.int .i64) a0), (.d (.int .i64) a1), (.d (.int .u64) a2), (.d .str a3)])] [] some = values_only.c  s0 a0 a1 a2 a3 (fun r => some ⟨.v (.agg [(.d (.int .i64) r.1), (.d (.int .i64) r.2.1), (.d (.int .u64) r.2.2.1), (.d .str r.2.2.2)]), []⟩) := by
  kernel_rfl
theorem values_only.s0_ev  {s0 : S_values_only_0} {x0 : Int} {x1 : Bool} {x2 : Int} {x3 : Int} {x4 : Int} {x5 : ByteArray} {x6 : Int} {x7 : Int} {x8 : Int} {x9 : ByteArray} {x10 : Int} {x11 : Int} {x12 : Int} {x13 : ByteArray} : evAt (env_values_only  s0) [1, 4, 1, 0, 1, 1] [1, 2, 3, 8, 9] [.v (.one (.ptr 0 0)), .v (.one (.ptr 1 0)), .v (.one (.ptr 2 0)), .v (.one (.d (.int .i64) x0)), .v (.one (.d .bool x1))] [some (.box [(.d (.int .i64) x2), (.d (.int .i64) x3), (.d (.int .u64) x4), (.d .str x5)]), some (.box [(.d (.int .i64) x6), (.d (.int .i64) x7), (.d (.int .u64) x8), (.d .str x9)]), some (.box [(.d (.int .i64) x10), (.d (.int .i64) x11), (.d (.int .u64) x12), (.d .str x13)])] some = values_only.s0c  s0 x0 x1 x2 x3 x4 x5 x6 x7 x8 x9 x10 x11 x12 x13 (fun r => some ⟨.v (.agg [(.d (.int .i64) r.1), (.d (.int .i64) r.2.1), (.d (.int .u64) r.2.2.1), (.d .str r.2.2.2)]), []⟩) := by
  kernel_rfl
def values_only.s0 : Nat → Int → Bool → Int → Int → Int → ByteArray → Int → Int → Int → ByteArray → Int → Int → Int → ByteArray → Option (Int × Int × Int × ByteArray)
  | 0, _, _, _, _, _, _, _, _, _, _, _, _, _, _ => none
  | k + 1, x0, x1, x2, x3, x4, x5, x6, x7, x8, x9, x10, x11, x12, x13 => values_only.s0c  (values_only.s0 k) x0 x1 x2 x3 x4 x5 x6 x7 x8 x9 x10 x11 x12 x13 some
def values_only.f (k : Nat) (a0 : Int) (a1 : Int) (a2 : Int) (a3 : ByteArray) : Option (Int × Int × Int × ByteArray) := values_only.c  (values_only.s0 k) a0 a1 a2 a3 some
theorem values_only.is  {s0 : S_values_only_0} : FnIs (env_values_only  s0) 61 Go.Proofs.Tryd.f61 := ⟨Go.Proofs.Tryd.func61, rfl, rfl, rfl, by decide⟩
theorem values_only.envok  {s0 : S_values_only_0}  : EnvOK (env_values_only  s0).toEnv := by
  intro f c h
  simp only [env_values_only] at h
  simp at h
noncomputable abbrev values_only.E (k : Nat) : FEnv := env_values_only  (values_only.s0 k)
theorem values_only.hE (k : Nat) : EnvOK (values_only.E k).toEnv := values_only.envok 
theorem values_only.segs_ok : ∀ k, ∀ s ∈ (values_only.E k).segs, SegOK (values_only.E k) Go.Proofs.Tryd.f61 s
  | 0 => by
    intro s hs
    simp only [values_only.E, env_values_only, List.mem_cons, List.not_mem_nil, or_false] at hs
    rcases hs with rfl
    · intro tvs blks res h; exfalso; simp only [seg_values_only_0] at h; split at h <;> simp [values_only.s0] at h
  | k + 1 => by
    intro s hs
    simp only [values_only.E, env_values_only, List.mem_cons, List.not_mem_nil, or_false] at hs
    rcases hs with rfl
    · refine seg_of_ev (E := values_only.E k) (values_only.hE k) ⟨values_only.is.rvs⟩ (values_only.segs_ok k) ?_
      intro tvs blks res h
      simp only [seg_values_only_0] at h
      split at h
      · exact (values_only.s0_ev.trans values_only.s0c_bind).trans h
      · simp at h
theorem values_only.ok (k : Nat) : CtOK Go.Proofs.Tryd.prog 61 (ct_values_only (values_only.f k)) := by
  refine ct_of_ev (E := values_only.E k) values_only.is (values_only.hE k) (values_only.segs_ok k) rfl ?_
  intro tvs blks res h
  simp only [ct_values_only] at h
  split at h
  · exact (values_only.ev.trans values_only.c_bind).trans h
  · simp at h
end Go.Proofs.YtddlebbjaadbeaaDoor.Aev
