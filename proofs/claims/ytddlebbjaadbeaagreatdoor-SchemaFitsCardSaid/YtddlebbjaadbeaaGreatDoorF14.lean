/- By a program of this session (AEV): functions of the program as plain functions, and that the machine does what they say. -/
import Derived.Test.YtddlebbjaadbeaaGreatDoorTys
import Derived.Test.YtddlebbjaadbeaaGreatDoorProg
import Derived.Laws.Externs
import Derived.Lib.Bytealg
import Derived.Test.YtddlebbjaadbeaaGreatDoorF10
import Derived.Test.YtddlebbjaadbeaaGreatDoorF12
import Derived.Test.YtddlebbjaadbeaaGreatDoorF13
namespace Go.Proofs.YtddlebbjaadbeaaGreatDoor.Aev
set_option linter.unusedVariables false
set_option linter.unusedSimpArgs false
set_option maxRecDepth 100000
set_option maxHeartbeats 4000000
open Go
/-! ### transomref09_fits: function 29 -/
abbrev G_transomref09_fits : Type := ByteArray → Int → (List D_api_Col) → (List D_api_Value) → Option Int
def ct_transomref09_fits (g : G_transomref09_fits) : Ct where
  nin := 0
  mv := []
  F := fun tvs blks {β} K => match tvs, blks with
    | [.v (.agg [(.d .str a0), (.d (.int .i64) a1), (.d (.sl (.pair .str (.pair (.int .i64) (.pair .bool (.pair (.pair (.int .i64) (.pair (.int .i64) (.pair (.int .u64) (.pair .str .unit)))) .unit))))) a2)]), .v (.one (.d (.sl (.pair (.int .i64) (.pair (.int .i64) (.pair (.int .u64) (.pair .str .unit))))) a3))], [] => (g a0 a1 a2 a3).bind fun r => K ⟨.v (.one (.d (.int .i64) r)), []⟩
    | _, _ => none
  legit := fun tvs blks K r h => by
    split at h
    · obtain ⟨x, hx, hk⟩ := Option.bind_eq_some_iff.1 h
      refine ⟨_, ?_, hk⟩
      simp only [hx, Option.bind_some]
    · simp at h
abbrev S_transomref09_fits_0 : Type := (List D_api_Value) → Int → ByteArray → Int → (List D_api_Col) → Option Int
abbrev S_transomref09_fits_1 : Type := (List D_api_Value) → Int → Bool → ByteArray → Int → (List D_api_Col) → Option Int
abbrev S_transomref09_fits_2 : Type := (List D_api_Value) → Int → ByteArray → Int → (List D_api_Col) → Option Int
def seg_transomref09_fits_0 (g : S_transomref09_fits_0) : Seg where
  path := [4, 1, 0, 1]
  prep := []
  keep := [1, 2, 5]
  F := fun tvs blks {β} K => match tvs, blks with
    | [.v (.one (.d (.sl (.pair (.int .i64) (.pair (.int .i64) (.pair (.int .u64) (.pair .str .unit))))) x0)), .v (.one (.ptr 0 0)), .v (.one (.d (.int .i64) x1))], [some (.box [(.d .str x2), (.d (.int .i64) x3), (.d (.sl (.pair .str (.pair (.int .i64) (.pair .bool (.pair (.pair (.int .i64) (.pair (.int .i64) (.pair (.int .u64) (.pair .str .unit)))) .unit))))) x4)])] => (g x0 x1 x2 x3 x4).bind fun r => K ⟨.v (.one (.d (.int .i64) r)), []⟩
    | _, _ => none
  legit := fun tvs blks K r h => by
    split at h
    · obtain ⟨x, hx, hk⟩ := Option.bind_eq_some_iff.1 h
      refine ⟨_, ?_, hk⟩
      simp only [hx, Option.bind_some]
    · simp at h
def seg_transomref09_fits_1 (g : S_transomref09_fits_1) : Seg where
  path := [1, 1, 4, 0, 1, 5, 4, 1, 0, 1]
  prep := []
  keep := [1, 2, 5, 57]
  F := fun tvs blks {β} K => match tvs, blks with
    | [.v (.one (.d (.sl (.pair (.int .i64) (.pair (.int .i64) (.pair (.int .u64) (.pair .str .unit))))) x0)), .v (.one (.ptr 0 0)), .v (.one (.d (.int .i64) x1)), .v (.one (.d .bool x2))], [some (.box [(.d .str x3), (.d (.int .i64) x4), (.d (.sl (.pair .str (.pair (.int .i64) (.pair .bool (.pair (.pair (.int .i64) (.pair (.int .i64) (.pair (.int .u64) (.pair .str .unit)))) .unit))))) x5)])] => (g x0 x1 x2 x3 x4 x5).bind fun r => K ⟨.v (.one (.d (.int .i64) r)), []⟩
    | _, _ => none
  legit := fun tvs blks K r h => by
    split at h
    · obtain ⟨x, hx, hk⟩ := Option.bind_eq_some_iff.1 h
      refine ⟨_, ?_, hk⟩
      simp only [hx, Option.bind_some]
    · simp at h
def seg_transomref09_fits_2 (g : S_transomref09_fits_2) : Seg where
  path := [1, 1, 5, 4, 1, 0, 1]
  prep := []
  keep := [1, 2, 5]
  F := fun tvs blks {β} K => match tvs, blks with
    | [.v (.one (.d (.sl (.pair (.int .i64) (.pair (.int .i64) (.pair (.int .u64) (.pair .str .unit))))) x0)), .v (.one (.ptr 0 0)), .v (.one (.d (.int .i64) x1))], [some (.box [(.d .str x2), (.d (.int .i64) x3), (.d (.sl (.pair .str (.pair (.int .i64) (.pair .bool (.pair (.pair (.int .i64) (.pair (.int .i64) (.pair (.int .u64) (.pair .str .unit)))) .unit))))) x4)])] => (g x0 x1 x2 x3 x4).bind fun r => K ⟨.v (.one (.d (.int .i64) r)), []⟩
    | _, _ => none
  legit := fun tvs blks K r h => by
    split at h
    · obtain ⟨x, hx, hk⟩ := Option.bind_eq_some_iff.1 h
      refine ⟨_, ?_, hk⟩
      simp only [hx, Option.bind_some]
    · simp at h
noncomputable def env_transomref09_fits (g58 : G_transomref04_Check) (s0 : S_transomref09_fits_0) (s1 : S_transomref09_fits_1) (s2 : S_transomref09_fits_2) : FEnv := { P := Go.Proofs.Tryz.prog, ct := fun m => if m = 58 then some (ct_transomref04_Check g58) else none, N := 58, body := Go.Proofs.Tryz.f29.body.getD .skip, rvs := [.tmp 4], rts := [3], nin := 0, rmv := [], segs := [seg_transomref09_fits_0 s0, seg_transomref09_fits_1 s1, seg_transomref09_fits_2 s2] }
def transomref09_fits.c {β : Type} (g58 : G_transomref04_Check) (s0 : S_transomref09_fits_0) (s1 : S_transomref09_fits_1) (s2 : S_transomref09_fits_2) (a0 : ByteArray) (a1 : Int) (a2 : List D_api_Col) (a3 : List D_api_Value) (ret : Int → Option β) : Option β := ((s0 a3 (0 : Int) a0 a1 a2).bind ret)
def transomref09_fits.s0c {β : Type} (g58 : G_transomref04_Check) (s0 : S_transomref09_fits_0) (s1 : S_transomref09_fits_1) (s2 : S_transomref09_fits_2) (x0 : List D_api_Value) (x1 : Int) (x2 : ByteArray) (x3 : Int) (x4 : List D_api_Col) (ret : Int → Option β) : Option β := (bif (decide (x1 < ((List.length x0) : Int))) then (bif ((decide ((0 : Int) ≤ x1)) && (decide (x1 < ((List.length x0) : Int)))) then ((g58 (elem T_api_Value x0 x1).1 (elem T_api_Value x0 x1).2.1 (elem T_api_Value x0 x1).2.2.1 (elem T_api_Value x0 x1).2.2.2.1).bind fun r0 => (bif (r0 != (0 : Int)) then (ret (r0)) else (bif ((decide ((0 : Int) ≤ x1)) && (decide (x1 < ((List.length x0) : Int)))) then (bif ((elem T_api_Value x0 x1).1 == (0 : Int)) then (bif ((decide ((0 : Int) ≤ x1)) && (decide (x1 < ((List.length x4) : Int)))) then (bif (!(elem T_api_Col x4 x1).2.2.1) then ((s1 x0 x1 true x2 x3 x4).bind ret) else (bif ((decide ((0 : Int) ≤ x1)) && (decide (x1 < ((List.length x0) : Int)))) then (bif ((elem T_api_Value x0 x1).1 != (0 : Int)) then (bif ((decide ((0 : Int) ≤ x1)) && (decide (x1 < ((List.length x0) : Int)))) then (bif ((decide ((0 : Int) ≤ x1)) && (decide (x1 < ((List.length x4) : Int)))) then ((s1 x0 x1 ((elem T_api_Value x0 x1).1 != (elem T_api_Col x4 x1).2.1) x2 x3 x4).bind ret) else none) else none) else ((s1 x0 x1 false x2 x3 x4).bind ret)) else none)) else none) else (bif ((decide ((0 : Int) ≤ x1)) && (decide (x1 < ((List.length x0) : Int)))) then (bif ((elem T_api_Value x0 x1).1 != (0 : Int)) then (bif ((decide ((0 : Int) ≤ x1)) && (decide (x1 < ((List.length x0) : Int)))) then (bif ((decide ((0 : Int) ≤ x1)) && (decide (x1 < ((List.length x4) : Int)))) then ((s1 x0 x1 ((elem T_api_Value x0 x1).1 != (elem T_api_Col x4 x1).2.1) x2 x3 x4).bind ret) else none) else none) else ((s1 x0 x1 false x2 x3 x4).bind ret)) else none)) else none))) else none) else (ret ((0 : Int))))
def transomref09_fits.s1c {β : Type} (g58 : G_transomref04_Check) (s0 : S_transomref09_fits_0) (s1 : S_transomref09_fits_1) (s2 : S_transomref09_fits_2) (x0 : List D_api_Value) (x1 : Int) (x2 : Bool) (x3 : ByteArray) (x4 : Int) (x5 : List D_api_Col) (ret : Int → Option β) : Option β := (bif x2 then (ret ((11 : Int))) else ((s2 x0 x1 x3 x4 x5).bind ret))
def transomref09_fits.s2c {β : Type} (g58 : G_transomref04_Check) (s0 : S_transomref09_fits_0) (s1 : S_transomref09_fits_1) (s2 : S_transomref09_fits_2) (x0 : List D_api_Value) (x1 : Int) (x2 : ByteArray) (x3 : Int) (x4 : List D_api_Col) (ret : Int → Option β) : Option β := ((s0 x0 (IntKind.wrap IntKind.i64 (x1 + (1 : Int))) x2 x3 x4).bind ret)
theorem transomref09_fits.c_bind {β : Type} {g58 : G_transomref04_Check} {s0 : S_transomref09_fits_0} {s1 : S_transomref09_fits_1} {s2 : S_transomref09_fits_2} {a0 : ByteArray} {a1 : Int} {a2 : List D_api_Col} {a3 : List D_api_Value} {ret : Int → Option β} : transomref09_fits.c g58 s0 s1 s2 a0 a1 a2 a3 ret = (transomref09_fits.c g58 s0 s1 s2 a0 a1 a2 a3 some).bind ret := by
  simp only [transomref09_fits.c, bif_bind, sum_bind, Option.bind_assoc, Option.bind_some, Option.bind_none, Option.bind_fun_some]
theorem transomref09_fits.s0c_bind {β : Type} {g58 : G_transomref04_Check} {s0 : S_transomref09_fits_0} {s1 : S_transomref09_fits_1} {s2 : S_transomref09_fits_2} {x0 : List D_api_Value} {x1 : Int} {x2 : ByteArray} {x3 : Int} {x4 : List D_api_Col} {ret : Int → Option β} : transomref09_fits.s0c g58 s0 s1 s2 x0 x1 x2 x3 x4 ret = (transomref09_fits.s0c g58 s0 s1 s2 x0 x1 x2 x3 x4 some).bind ret := by
  simp only [transomref09_fits.s0c, bif_bind, sum_bind, Option.bind_assoc, Option.bind_some, Option.bind_none, Option.bind_fun_some]
theorem transomref09_fits.s1c_bind {β : Type} {g58 : G_transomref04_Check} {s0 : S_transomref09_fits_0} {s1 : S_transomref09_fits_1} {s2 : S_transomref09_fits_2} {x0 : List D_api_Value} {x1 : Int} {x2 : Bool} {x3 : ByteArray} {x4 : Int} {x5 : List D_api_Col} {ret : Int → Option β} : transomref09_fits.s1c g58 s0 s1 s2 x0 x1 x2 x3 x4 x5 ret = (transomref09_fits.s1c g58 s0 s1 s2 x0 x1 x2 x3 x4 x5 some).bind ret := by
  simp only [transomref09_fits.s1c, bif_bind, sum_bind, Option.bind_assoc, Option.bind_some, Option.bind_none, Option.bind_fun_some]
theorem transomref09_fits.s2c_bind {β : Type} {g58 : G_transomref04_Check} {s0 : S_transomref09_fits_0} {s1 : S_transomref09_fits_1} {s2 : S_transomref09_fits_2} {x0 : List D_api_Value} {x1 : Int} {x2 : ByteArray} {x3 : Int} {x4 : List D_api_Col} {ret : Int → Option β} : transomref09_fits.s2c g58 s0 s1 s2 x0 x1 x2 x3 x4 ret = (transomref09_fits.s2c g58 s0 s1 s2 x0 x1 x2 x3 x4 some).bind ret := by
  simp only [transomref09_fits.s2c, bif_bind, sum_bind, Option.bind_assoc, Option.bind_some, Option.bind_none, Option.bind_fun_some]
theorem transomref09_fits.ev {g58 : G_transomref04_Check} {s0 : S_transomref09_fits_0} {s1 : S_transomref09_fits_1} {s2 : S_transomref09_fits_2} {a0 : ByteArray} {a1 : Int} {a2 : List D_api_Col} {a3 : List D_api_Value} : evAt (env_transomref09_fits g58 s0 s1 s2) [] [0, 1] [.v (.agg [(.d .str a0), (.d (.int .i64) a1), (.d (.sl T_api_Col) a2)]), .v (.one (.d (.sl T_api_Value) a3))] [] some = transomref09_fits.c g58 s0 s1 s2 a0 a1 a2 a3 (fun r => some ⟨.v (.one (.d (.int .i64) r)), []⟩) := by
  kernel_rfl
theorem transomref09_fits.s0_ev {g58 : G_transomref04_Check} {s0 : S_transomref09_fits_0} {s1 : S_transomref09_fits_1} {s2 : S_transomref09_fits_2} {x0 : List D_api_Value} {x1 : Int} {x2 : ByteArray} {x3 : Int} {x4 : List D_api_Col} : evAt (env_transomref09_fits g58 s0 s1 s2) [4, 1, 0, 1] [1, 2, 5] [.v (.one (.d (.sl T_api_Value) x0)), .v (.one (.ptr 0 0)), .v (.one (.d (.int .i64) x1))] [some (.box [(.d .str x2), (.d (.int .i64) x3), (.d (.sl T_api_Col) x4)])] some = transomref09_fits.s0c g58 s0 s1 s2 x0 x1 x2 x3 x4 (fun r => some ⟨.v (.one (.d (.int .i64) r)), []⟩) := by
  kernel_rfl
theorem transomref09_fits.s1_ev {g58 : G_transomref04_Check} {s0 : S_transomref09_fits_0} {s1 : S_transomref09_fits_1} {s2 : S_transomref09_fits_2} {x0 : List D_api_Value} {x1 : Int} {x2 : Bool} {x3 : ByteArray} {x4 : Int} {x5 : List D_api_Col} : evAt (env_transomref09_fits g58 s0 s1 s2) [1, 1, 4, 0, 1, 5, 4, 1, 0, 1] [1, 2, 5, 57] [.v (.one (.d (.sl T_api_Value) x0)), .v (.one (.ptr 0 0)), .v (.one (.d (.int .i64) x1)), .v (.one (.d .bool x2))] [some (.box [(.d .str x3), (.d (.int .i64) x4), (.d (.sl T_api_Col) x5)])] some = transomref09_fits.s1c g58 s0 s1 s2 x0 x1 x2 x3 x4 x5 (fun r => some ⟨.v (.one (.d (.int .i64) r)), []⟩) := by
  kernel_rfl
theorem transomref09_fits.s2_ev {g58 : G_transomref04_Check} {s0 : S_transomref09_fits_0} {s1 : S_transomref09_fits_1} {s2 : S_transomref09_fits_2} {x0 : List D_api_Value} {x1 : Int} {x2 : ByteArray} {x3 : Int} {x4 : List D_api_Col} : evAt (env_transomref09_fits g58 s0 s1 s2) [1, 1, 5, 4, 1, 0, 1] [1, 2, 5] [.v (.one (.d (.sl T_api_Value) x0)), .v (.one (.ptr 0 0)), .v (.one (.d (.int .i64) x1))] [some (.box [(.d .str x2), (.d (.int .i64) x3), (.d (.sl T_api_Col) x4)])] some = transomref09_fits.s2c g58 s0 s1 s2 x0 x1 x2 x3 x4 (fun r => some ⟨.v (.one (.d (.int .i64) r)), []⟩) := by
  kernel_rfl
mutual
def transomref09_fits.s0 : Nat → (List D_api_Value) → Int → ByteArray → Int → (List D_api_Col) → Option Int
  | 0, _, _, _, _, _ => none
  | k + 1, x0, x1, x2, x3, x4 => transomref09_fits.s0c (transomref04_Check.f k) (transomref09_fits.s0 k) (transomref09_fits.s1 k) (transomref09_fits.s2 k) x0 x1 x2 x3 x4 some
def transomref09_fits.s1 : Nat → (List D_api_Value) → Int → Bool → ByteArray → Int → (List D_api_Col) → Option Int
  | 0, _, _, _, _, _, _ => none
  | k + 1, x0, x1, x2, x3, x4, x5 => transomref09_fits.s1c (transomref04_Check.f k) (transomref09_fits.s0 k) (transomref09_fits.s1 k) (transomref09_fits.s2 k) x0 x1 x2 x3 x4 x5 some
def transomref09_fits.s2 : Nat → (List D_api_Value) → Int → ByteArray → Int → (List D_api_Col) → Option Int
  | 0, _, _, _, _, _ => none
  | k + 1, x0, x1, x2, x3, x4 => transomref09_fits.s2c (transomref04_Check.f k) (transomref09_fits.s0 k) (transomref09_fits.s1 k) (transomref09_fits.s2 k) x0 x1 x2 x3 x4 some
end
def transomref09_fits.f (k : Nat) (a0 : ByteArray) (a1 : Int) (a2 : List D_api_Col) (a3 : List D_api_Value) : Option Int := transomref09_fits.c (transomref04_Check.f k) (transomref09_fits.s0 k) (transomref09_fits.s1 k) (transomref09_fits.s2 k) a0 a1 a2 a3 some
theorem transomref09_fits.is {g58 : G_transomref04_Check} {s0 : S_transomref09_fits_0} {s1 : S_transomref09_fits_1} {s2 : S_transomref09_fits_2} : FnIs (env_transomref09_fits g58 s0 s1 s2) 29 Go.Proofs.Tryz.f29 := ⟨Go.Proofs.Tryz.func29, rfl, rfl, rfl, by decide⟩
theorem transomref09_fits.envok {g58 : G_transomref04_Check} {s0 : S_transomref09_fits_0} {s1 : S_transomref09_fits_1} {s2 : S_transomref09_fits_2} (h58 : CtOK Go.Proofs.Tryz.prog 58 (ct_transomref04_Check g58)) : EnvOK (env_transomref09_fits g58 s0 s1 s2).toEnv := by
  intro f c h
  simp only [env_transomref09_fits] at h
  split at h
  · rename_i e; subst e; cases h; exact h58
  simp at h
noncomputable abbrev transomref09_fits.E (k : Nat) : FEnv := env_transomref09_fits (transomref04_Check.f k) (transomref09_fits.s0 k) (transomref09_fits.s1 k) (transomref09_fits.s2 k)
theorem transomref09_fits.hE (k : Nat) : EnvOK (transomref09_fits.E k).toEnv := transomref09_fits.envok (transomref04_Check.ok k)
theorem transomref09_fits.segs_ok : ∀ k, ∀ s ∈ (transomref09_fits.E k).segs, SegOK (transomref09_fits.E k) Go.Proofs.Tryz.f29 s
  | 0 => by
    intro s hs
    simp only [transomref09_fits.E, env_transomref09_fits, List.mem_cons, List.not_mem_nil, or_false] at hs
    rcases hs with rfl | rfl | rfl
    · intro tvs blks res h; exfalso; simp only [seg_transomref09_fits_0] at h; split at h <;> simp [transomref09_fits.s0] at h
    · intro tvs blks res h; exfalso; simp only [seg_transomref09_fits_1] at h; split at h <;> simp [transomref09_fits.s1] at h
    · intro tvs blks res h; exfalso; simp only [seg_transomref09_fits_2] at h; split at h <;> simp [transomref09_fits.s2] at h
  | k + 1 => by
    intro s hs
    simp only [transomref09_fits.E, env_transomref09_fits, List.mem_cons, List.not_mem_nil, or_false] at hs
    rcases hs with rfl | rfl | rfl
    · refine seg_of_ev (E := transomref09_fits.E k) (transomref09_fits.hE k) ⟨transomref09_fits.is.rvs⟩ (transomref09_fits.segs_ok k) ?_
      intro tvs blks res h
      simp only [seg_transomref09_fits_0] at h
      split at h
      · exact (transomref09_fits.s0_ev.trans transomref09_fits.s0c_bind).trans h
      · simp at h
    · refine seg_of_ev (E := transomref09_fits.E k) (transomref09_fits.hE k) ⟨transomref09_fits.is.rvs⟩ (transomref09_fits.segs_ok k) ?_
      intro tvs blks res h
      simp only [seg_transomref09_fits_1] at h
      split at h
      · exact (transomref09_fits.s1_ev.trans transomref09_fits.s1c_bind).trans h
      · simp at h
    · refine seg_of_ev (E := transomref09_fits.E k) (transomref09_fits.hE k) ⟨transomref09_fits.is.rvs⟩ (transomref09_fits.segs_ok k) ?_
      intro tvs blks res h
      simp only [seg_transomref09_fits_2] at h
      split at h
      · exact (transomref09_fits.s2_ev.trans transomref09_fits.s2c_bind).trans h
      · simp at h
theorem transomref09_fits.ok (k : Nat) : CtOK Go.Proofs.Tryz.prog 29 (ct_transomref09_fits (transomref09_fits.f k)) := by
  refine ct_of_ev (E := transomref09_fits.E k) transomref09_fits.is (transomref09_fits.hE k) (transomref09_fits.segs_ok k) rfl ?_
  intro tvs blks res h
  simp only [ct_transomref09_fits] at h
  split at h
  · exact (transomref09_fits.ev.trans transomref09_fits.c_bind).trans h
  · simp at h

/-! ### transomref09_Fits: function 11 -/
abbrev G_transomref09_Fits : Type := ByteArray → Int → (List D_api_Col) → (List D_api_Value) → Option Int
def ct_transomref09_Fits (g : G_transomref09_Fits) : Ct where
  nin := 0
  mv := []
  F := fun tvs blks {β} K => match tvs, blks with
    | [.v (.agg [(.d .str a0), (.d (.int .i64) a1), (.d (.sl (.pair .str (.pair (.int .i64) (.pair .bool (.pair (.pair (.int .i64) (.pair (.int .i64) (.pair (.int .u64) (.pair .str .unit)))) .unit))))) a2)]), .v (.one (.d (.sl (.pair (.int .i64) (.pair (.int .i64) (.pair (.int .u64) (.pair .str .unit))))) a3))], [] => (g a0 a1 a2 a3).bind fun r => K ⟨.v (.one (.d (.int .i64) r)), []⟩
    | _, _ => none
  legit := fun tvs blks K r h => by
    split at h
    · obtain ⟨x, hx, hk⟩ := Option.bind_eq_some_iff.1 h
      refine ⟨_, ?_, hk⟩
      simp only [hx, Option.bind_some]
    · simp at h
noncomputable def env_transomref09_Fits (g28 : G_transomref09_Check) (g29 : G_transomref09_fits)  : FEnv := { P := Go.Proofs.Tryz.prog, ct := fun m => if m = 28 then some (ct_transomref09_Check g28) else if m = 29 then some (ct_transomref09_fits g29) else none, N := 20, body := Go.Proofs.Tryz.f11.body.getD .skip, rvs := [.tmp 4], rts := [3], nin := 0, rmv := [], segs := [] }
def transomref09_Fits.c {β : Type} (g28 : G_transomref09_Check) (g29 : G_transomref09_fits)  (a0 : ByteArray) (a1 : Int) (a2 : List D_api_Col) (a3 : List D_api_Value) (ret : Int → Option β) : Option β := ((g28 a0 a1 a2).bind fun r0 => (bif (r0 != (0 : Int)) then (ret (r0)) else (bif (((List.length a3) : Int) != ((List.length a2) : Int)) then (ret ((11 : Int))) else ((g29 a0 a1 a2 a3).bind fun r1 => (ret (r1))))))
theorem transomref09_Fits.c_bind {β : Type} {g28 : G_transomref09_Check} {g29 : G_transomref09_fits}  {a0 : ByteArray} {a1 : Int} {a2 : List D_api_Col} {a3 : List D_api_Value} {ret : Int → Option β} : transomref09_Fits.c g28 g29  a0 a1 a2 a3 ret = (transomref09_Fits.c g28 g29  a0 a1 a2 a3 some).bind ret := by
  simp only [transomref09_Fits.c, bif_bind, sum_bind, Option.bind_assoc, Option.bind_some, Option.bind_none, Option.bind_fun_some]
theorem transomref09_Fits.ev {g28 : G_transomref09_Check} {g29 : G_transomref09_fits}  {a0 : ByteArray} {a1 : Int} {a2 : List D_api_Col} {a3 : List D_api_Value} : evAt (env_transomref09_Fits g28 g29 ) [] [0, 1] [.v (.agg [(.d .str a0), (.d (.int .i64) a1), (.d (.sl T_api_Col) a2)]), .v (.one (.d (.sl T_api_Value) a3))] [] some = transomref09_Fits.c g28 g29  a0 a1 a2 a3 (fun r => some ⟨.v (.one (.d (.int .i64) r)), []⟩) := by
  kernel_rfl
def transomref09_Fits.f (k : Nat) (a0 : ByteArray) (a1 : Int) (a2 : List D_api_Col) (a3 : List D_api_Value) : Option Int := transomref09_Fits.c (transomref09_Check.f k) (transomref09_fits.f k)  a0 a1 a2 a3 some
theorem transomref09_Fits.is {g28 : G_transomref09_Check} {g29 : G_transomref09_fits}  : FnIs (env_transomref09_Fits g28 g29 ) 11 Go.Proofs.Tryz.f11 := ⟨Go.Proofs.Tryz.func11, rfl, rfl, rfl, by decide⟩
theorem transomref09_Fits.envok {g28 : G_transomref09_Check} {g29 : G_transomref09_fits}  (h28 : CtOK Go.Proofs.Tryz.prog 28 (ct_transomref09_Check g28)) (h29 : CtOK Go.Proofs.Tryz.prog 29 (ct_transomref09_fits g29)) : EnvOK (env_transomref09_Fits g28 g29 ).toEnv := by
  intro f c h
  simp only [env_transomref09_Fits] at h
  split at h
  · rename_i e; subst e; cases h; exact h28
  split at h
  · rename_i e; subst e; cases h; exact h29
  simp at h
noncomputable abbrev transomref09_Fits.E (k : Nat) : FEnv := env_transomref09_Fits (transomref09_Check.f k) (transomref09_fits.f k) 
theorem transomref09_Fits.hE (k : Nat) : EnvOK (transomref09_Fits.E k).toEnv := transomref09_Fits.envok (transomref09_Check.ok k) (transomref09_fits.ok k)
theorem transomref09_Fits.ok (k : Nat) : CtOK Go.Proofs.Tryz.prog 11 (ct_transomref09_Fits (transomref09_Fits.f k)) := by
  refine ct_of_ev (E := transomref09_Fits.E k) transomref09_Fits.is (transomref09_Fits.hE k) (fun s hs => by simp [transomref09_Fits.E, env_transomref09_Fits] at hs) rfl ?_
  intro tvs blks res h
  simp only [ct_transomref09_Fits] at h
  split at h
  · exact (transomref09_Fits.ev.trans transomref09_Fits.c_bind).trans h
  · simp at h

/-! ### transomref05_Eight: function 59 -/
abbrev G_transomref05_Eight : Type := Int → Option ByteArray
def ct_transomref05_Eight (g : G_transomref05_Eight) : Ct where
  nin := 0
  mv := []
  F := fun tvs blks {β} K => match tvs, blks with
    | [.v (.one (.d (.int .u64) a0))], [] => (g a0).bind fun r => K ⟨.v (.one (.d .str r)), []⟩
    | _, _ => none
  legit := fun tvs blks K r h => by
    split at h
    · obtain ⟨x, hx, hk⟩ := Option.bind_eq_some_iff.1 h
      refine ⟨_, ?_, hk⟩
      simp only [hx, Option.bind_some]
    · simp at h
abbrev S_transomref05_Eight_0 : Type := Int → Int → (List Int) → Option ByteArray
def seg_transomref05_Eight_0 (g : S_transomref05_Eight_0) : Seg where
  path := [4, 1, 0, 1, 1]
  prep := [.own 3 (.int .u8)]
  keep := [0, 3, 4]
  F := fun tvs blks {β} K => match tvs, blks with
    | [.v (.one (.d (.int .u64) x0)), .v (.one (.own 0)), .v (.one (.d (.int .i64) x1))], [some (.own (.int .u8) false x2)] => (g x0 x1 x2).bind fun r => K ⟨.v (.one (.d .str r)), []⟩
    | _, _ => none
  legit := fun tvs blks K r h => by
    split at h
    · obtain ⟨x, hx, hk⟩ := Option.bind_eq_some_iff.1 h
      refine ⟨_, ?_, hk⟩
      simp only [hx, Option.bind_some]
    · simp at h
noncomputable def env_transomref05_Eight  (s0 : S_transomref05_Eight_0) : FEnv := { P := Go.Proofs.Tryz.prog, ct := fun m => none, N := 21, body := Go.Proofs.Tryz.f59.body.getD .skip, rvs := [.tmp 2], rts := [9], nin := 0, rmv := [], segs := [seg_transomref05_Eight_0 s0] }
def transomref05_Eight.c {β : Type}  (s0 : S_transomref05_Eight_0) (a0 : Int) (ret : ByteArray → Option β) : Option β := ((s0 a0 (0 : Int) []).bind ret)
def transomref05_Eight.s0c {β : Type}  (s0 : S_transomref05_Eight_0) (x0 : Int) (x1 : Int) (x2 : List Int) (ret : ByteArray → Option β) : Option β := (bif (decide (x1 < (8 : Int))) then (bif (decide ((0 : Int) ≤ (IntKind.wrap IntKind.u64 (IntKind.wrap IntKind.i64 ((56 : Int) - (IntKind.wrap IntKind.i64 ((8 : Int) * x1))))))) then (bif (decide ((((List.length x2) + (1 : Nat)) * (1 : Nat)) ≤ (35184372088832 : Nat))) then ((s0 x0 (IntKind.wrap IntKind.i64 (x1 + (1 : Int))) (x2 ++ [(IntKind.wrap IntKind.u8 (Int.fdiv x0 ((2 : Int) ^ (Min.min (Int.toNat (IntKind.wrap IntKind.u64 (IntKind.wrap IntKind.i64 ((56 : Int) - (IntKind.wrap IntKind.i64 ((8 : Int) * x1)))))) (64 : Nat)))))])).bind ret) else none) else none) else (ret ((ByteArray.mk (List.toArray (List.map (fun n => (UInt8.ofNat (Int.toNat n))) x2))))))
theorem transomref05_Eight.c_bind {β : Type}  {s0 : S_transomref05_Eight_0} {a0 : Int} {ret : ByteArray → Option β} : transomref05_Eight.c  s0 a0 ret = (transomref05_Eight.c  s0 a0 some).bind ret := by
  simp only [transomref05_Eight.c, bif_bind, sum_bind, Option.bind_assoc, Option.bind_some, Option.bind_none, Option.bind_fun_some]
theorem transomref05_Eight.s0c_bind {β : Type}  {s0 : S_transomref05_Eight_0} {x0 : Int} {x1 : Int} {x2 : List Int} {ret : ByteArray → Option β} : transomref05_Eight.s0c  s0 x0 x1 x2 ret = (transomref05_Eight.s0c  s0 x0 x1 x2 some).bind ret := by
  simp only [transomref05_Eight.s0c, bif_bind, sum_bind, Option.bind_assoc, Option.bind_some, Option.bind_none, Option.bind_fun_some]
theorem transomref05_Eight.ev  {s0 : S_transomref05_Eight_0} {a0 : Int} : evAt (env_transomref05_Eight  s0) [] [0] [.v (.one (.d (.int .u64) a0))] [] some = transomref05_Eight.c  s0 a0 (fun r => some ⟨.v (.one (.d .str r)), []⟩) := by
  kernel_rfl
theorem transomref05_Eight.s0_ev  {s0 : S_transomref05_Eight_0} {x0 : Int} {x1 : Int} {x2 : List Int} : evAt (env_transomref05_Eight  s0) [4, 1, 0, 1, 1] [0, 3, 4] [.v (.one (.d (.int .u64) x0)), .v (.one (.own 0)), .v (.one (.d (.int .i64) x1))] [some (.own (.int .u8) false x2)] some = transomref05_Eight.s0c  s0 x0 x1 x2 (fun r => some ⟨.v (.one (.d .str r)), []⟩) := by
  kernel_rfl
def transomref05_Eight.s0 : Nat → Int → Int → (List Int) → Option ByteArray
  | 0, _, _, _ => none
  | k + 1, x0, x1, x2 => transomref05_Eight.s0c  (transomref05_Eight.s0 k) x0 x1 x2 some
def transomref05_Eight.f (k : Nat) (a0 : Int) : Option ByteArray := transomref05_Eight.c  (transomref05_Eight.s0 k) a0 some
theorem transomref05_Eight.is  {s0 : S_transomref05_Eight_0} : FnIs (env_transomref05_Eight  s0) 59 Go.Proofs.Tryz.f59 := ⟨Go.Proofs.Tryz.func59, rfl, rfl, rfl, by decide⟩
theorem transomref05_Eight.envok  {s0 : S_transomref05_Eight_0}  : EnvOK (env_transomref05_Eight  s0).toEnv := by
  intro f c h
  simp only [env_transomref05_Eight] at h
  simp at h
noncomputable abbrev transomref05_Eight.E (k : Nat) : FEnv := env_transomref05_Eight  (transomref05_Eight.s0 k)
theorem transomref05_Eight.hE (k : Nat) : EnvOK (transomref05_Eight.E k).toEnv := transomref05_Eight.envok 
theorem transomref05_Eight.segs_ok : ∀ k, ∀ s ∈ (transomref05_Eight.E k).segs, SegOK (transomref05_Eight.E k) Go.Proofs.Tryz.f59 s
  | 0 => by
    intro s hs
    simp only [transomref05_Eight.E, env_transomref05_Eight, List.mem_cons, List.not_mem_nil, or_false] at hs
    rcases hs with rfl
    · intro tvs blks res h; exfalso; simp only [seg_transomref05_Eight_0] at h; split at h <;> simp [transomref05_Eight.s0] at h
  | k + 1 => by
    intro s hs
    simp only [transomref05_Eight.E, env_transomref05_Eight, List.mem_cons, List.not_mem_nil, or_false] at hs
    rcases hs with rfl
    · refine seg_of_ev (E := transomref05_Eight.E k) (transomref05_Eight.hE k) ⟨transomref05_Eight.is.rvs⟩ (transomref05_Eight.segs_ok k) ?_
      intro tvs blks res h
      simp only [seg_transomref05_Eight_0] at h
      split at h
      · exact (transomref05_Eight.s0_ev.trans transomref05_Eight.s0c_bind).trans h
      · simp at h
theorem transomref05_Eight.ok (k : Nat) : CtOK Go.Proofs.Tryz.prog 59 (ct_transomref05_Eight (transomref05_Eight.f k)) := by
  refine ct_of_ev (E := transomref05_Eight.E k) transomref05_Eight.is (transomref05_Eight.hE k) (transomref05_Eight.segs_ok k) rfl ?_
  intro tvs blks res h
  simp only [ct_transomref05_Eight] at h
  split at h
  · exact (transomref05_Eight.ev.trans transomref05_Eight.c_bind).trans h
  · simp at h

/-! ### transomref02_Key: function 60 -/
abbrev G_transomref02_Key : Type := Int → Option Int
def ct_transomref02_Key (g : G_transomref02_Key) : Ct where
  nin := 0
  mv := []
  F := fun tvs blks {β} K => match tvs, blks with
    | [.v (.one (.d (.int .u64) a0))], [] => (g a0).bind fun r => K ⟨.v (.one (.d (.int .u64) r)), []⟩
    | _, _ => none
  legit := fun tvs blks K r h => by
    split at h
    · obtain ⟨x, hx, hk⟩ := Option.bind_eq_some_iff.1 h
      refine ⟨_, ?_, hk⟩
      simp only [hx, Option.bind_some]
    · simp at h
noncomputable def env_transomref02_Key (g81 : G_transomref02_Canon)  : FEnv := { P := Go.Proofs.Tryz.prog, ct := fun m => if m = 81 then some (ct_transomref02_Canon g81) else none, N := 12, body := Go.Proofs.Tryz.f60.body.getD .skip, rvs := [.tmp 2], rts := [47], nin := 0, rmv := [], segs := [] }
def transomref02_Key.c {β : Type} (g81 : G_transomref02_Canon)  (a0 : Int) (ret : Int → Option β) : Option β := ((g81 a0).bind fun r0 => (bif ((Int.fdiv r0 (9223372036854775808 : Int)) == (0 : Int)) then (ret ((IntKind.wrap IntKind.u64 ((BitVec.toNat ((BitVec.ofInt (64 : Nat) r0) ||| (BitVec.ofInt (64 : Nat) (9223372036854775808 : Int)))) : Int)))) else (ret ((IntKind.wrap IntKind.u64 ((BitVec.toNat ((BitVec.ofInt (64 : Nat) (18446744073709551615 : Int)) ^^^ (BitVec.ofInt (64 : Nat) r0))) : Int))))))
theorem transomref02_Key.c_bind {β : Type} {g81 : G_transomref02_Canon}  {a0 : Int} {ret : Int → Option β} : transomref02_Key.c g81  a0 ret = (transomref02_Key.c g81  a0 some).bind ret := by
  simp only [transomref02_Key.c, bif_bind, sum_bind, Option.bind_assoc, Option.bind_some, Option.bind_none, Option.bind_fun_some]
theorem transomref02_Key.ev {g81 : G_transomref02_Canon}  {a0 : Int} : evAt (env_transomref02_Key g81 ) [] [0] [.v (.one (.d (.int .u64) a0))] [] some = transomref02_Key.c g81  a0 (fun r => some ⟨.v (.one (.d (.int .u64) r)), []⟩) := by
  kernel_rfl
def transomref02_Key.f (k : Nat) (a0 : Int) : Option Int := transomref02_Key.c (transomref02_Canon.f k)  a0 some
theorem transomref02_Key.is {g81 : G_transomref02_Canon}  : FnIs (env_transomref02_Key g81 ) 60 Go.Proofs.Tryz.f60 := ⟨Go.Proofs.Tryz.func60, rfl, rfl, rfl, by decide⟩
theorem transomref02_Key.envok {g81 : G_transomref02_Canon}  (h81 : CtOK Go.Proofs.Tryz.prog 81 (ct_transomref02_Canon g81)) : EnvOK (env_transomref02_Key g81 ).toEnv := by
  intro f c h
  simp only [env_transomref02_Key] at h
  split at h
  · rename_i e; subst e; cases h; exact h81
  simp at h
noncomputable abbrev transomref02_Key.E (k : Nat) : FEnv := env_transomref02_Key (transomref02_Canon.f k) 
theorem transomref02_Key.hE (k : Nat) : EnvOK (transomref02_Key.E k).toEnv := transomref02_Key.envok (transomref02_Canon.ok k)
theorem transomref02_Key.ok (k : Nat) : CtOK Go.Proofs.Tryz.prog 60 (ct_transomref02_Key (transomref02_Key.f k)) := by
  refine ct_of_ev (E := transomref02_Key.E k) transomref02_Key.is (transomref02_Key.hE k) (fun s hs => by simp [transomref02_Key.E, env_transomref02_Key] at hs) rfl ?_
  intro tvs blks res h
  simp only [ct_transomref02_Key] at h
  split at h
  · exact (transomref02_Key.ev.trans transomref02_Key.c_bind).trans h
  · simp at h

/-! ### transomref05_escaped: function 61 -/
abbrev G_transomref05_escaped : Type := ByteArray → Option ByteArray
def ct_transomref05_escaped (g : G_transomref05_escaped) : Ct where
  nin := 0
  mv := []
  F := fun tvs blks {β} K => match tvs, blks with
    | [.v (.one (.d .str a0))], [] => (g a0).bind fun r => K ⟨.v (.one (.d .str r)), []⟩
    | _, _ => none
  legit := fun tvs blks K r h => by
    split at h
    · obtain ⟨x, hx, hk⟩ := Option.bind_eq_some_iff.1 h
      refine ⟨_, ?_, hk⟩
      simp only [hx, Option.bind_some]
    · simp at h
abbrev S_transomref05_escaped_0 : Type := ByteArray → Int → (List Int) → Option ByteArray
abbrev S_transomref05_escaped_1 : Type := ByteArray → Int → (List Int) → Option ByteArray
def seg_transomref05_escaped_0 (g : S_transomref05_escaped_0) : Seg where
  path := [4, 1, 0, 1, 1]
  prep := [.own 3 (.int .u8)]
  keep := [0, 3, 4]
  F := fun tvs blks {β} K => match tvs, blks with
    | [.v (.one (.d .str x0)), .v (.one (.own 0)), .v (.one (.d (.int .i64) x1))], [some (.own (.int .u8) false x2)] => (g x0 x1 x2).bind fun r => K ⟨.v (.one (.d .str r)), []⟩
    | _, _ => none
  legit := fun tvs blks K r h => by
    split at h
    · obtain ⟨x, hx, hk⟩ := Option.bind_eq_some_iff.1 h
      refine ⟨_, ?_, hk⟩
      simp only [hx, Option.bind_some]
    · simp at h
def seg_transomref05_escaped_1 (g : S_transomref05_escaped_1) : Seg where
  path := [1, 1, 5, 4, 1, 0, 1, 1]
  prep := []
  keep := [0, 3, 4]
  F := fun tvs blks {β} K => match tvs, blks with
    | [.v (.one (.d .str x0)), .v (.one (.own 0)), .v (.one (.d (.int .i64) x1))], [some (.own (.int .u8) false x2)] => (g x0 x1 x2).bind fun r => K ⟨.v (.one (.d .str r)), []⟩
    | _, _ => none
  legit := fun tvs blks K r h => by
    split at h
    · obtain ⟨x, hx, hk⟩ := Option.bind_eq_some_iff.1 h
      refine ⟨_, ?_, hk⟩
      simp only [hx, Option.bind_some]
    · simp at h
noncomputable def env_transomref05_escaped  (s0 : S_transomref05_escaped_0) (s1 : S_transomref05_escaped_1) : FEnv := { P := Go.Proofs.Tryz.prog, ct := fun m => none, N := 29, body := Go.Proofs.Tryz.f61.body.getD .skip, rvs := [.tmp 2], rts := [9], nin := 0, rmv := [], segs := [seg_transomref05_escaped_0 s0, seg_transomref05_escaped_1 s1] }
def transomref05_escaped.c {β : Type}  (s0 : S_transomref05_escaped_0) (s1 : S_transomref05_escaped_1) (a0 : ByteArray) (ret : ByteArray → Option β) : Option β := ((s0 a0 (0 : Int) []).bind ret)
def transomref05_escaped.s0c {β : Type}  (s0 : S_transomref05_escaped_0) (s1 : S_transomref05_escaped_1) (x0 : ByteArray) (x1 : Int) (x2 : List Int) (ret : ByteArray → Option β) : Option β := (bif (decide (x1 < ((ByteArray.size x0) : Int))) then (bif ((decide ((0 : Int) ≤ x1)) && (decide (x1 < ((ByteArray.size x0) : Int)))) then (bif (decide ((((List.length x2) + (1 : Nat)) * (1 : Nat)) ≤ (35184372088832 : Nat))) then (bif ((decide ((0 : Int) ≤ x1)) && (decide (x1 < ((ByteArray.size x0) : Int)))) then (bif ((bt x0 x1) == (0 : Int)) then (bif (decide ((((List.length (x2 ++ [(bt x0 x1)])) + (1 : Nat)) * (1 : Nat)) ≤ (35184372088832 : Nat))) then ((s1 x0 x1 ((x2 ++ [(bt x0 x1)]) ++ [(255 : Int)])).bind ret) else none) else ((s1 x0 x1 (x2 ++ [(bt x0 x1)])).bind ret)) else none) else none) else none) else (bif (decide ((((List.length x2) + (2 : Nat)) * (1 : Nat)) ≤ (35184372088832 : Nat))) then (ret ((ByteArray.mk (List.toArray (List.map (fun n => (UInt8.ofNat (Int.toNat n))) (x2 ++ [(0 : Int), (0 : Int)])))))) else none))
def transomref05_escaped.s1c {β : Type}  (s0 : S_transomref05_escaped_0) (s1 : S_transomref05_escaped_1) (x0 : ByteArray) (x1 : Int) (x2 : List Int) (ret : ByteArray → Option β) : Option β := ((s0 x0 (IntKind.wrap IntKind.i64 (x1 + (1 : Int))) x2).bind ret)
theorem transomref05_escaped.c_bind {β : Type}  {s0 : S_transomref05_escaped_0} {s1 : S_transomref05_escaped_1} {a0 : ByteArray} {ret : ByteArray → Option β} : transomref05_escaped.c  s0 s1 a0 ret = (transomref05_escaped.c  s0 s1 a0 some).bind ret := by
  simp only [transomref05_escaped.c, bif_bind, sum_bind, Option.bind_assoc, Option.bind_some, Option.bind_none, Option.bind_fun_some]
theorem transomref05_escaped.s0c_bind {β : Type}  {s0 : S_transomref05_escaped_0} {s1 : S_transomref05_escaped_1} {x0 : ByteArray} {x1 : Int} {x2 : List Int} {ret : ByteArray → Option β} : transomref05_escaped.s0c  s0 s1 x0 x1 x2 ret = (transomref05_escaped.s0c  s0 s1 x0 x1 x2 some).bind ret := by
  simp only [transomref05_escaped.s0c, bif_bind, sum_bind, Option.bind_assoc, Option.bind_some, Option.bind_none, Option.bind_fun_some]
theorem transomref05_escaped.s1c_bind {β : Type}  {s0 : S_transomref05_escaped_0} {s1 : S_transomref05_escaped_1} {x0 : ByteArray} {x1 : Int} {x2 : List Int} {ret : ByteArray → Option β} : transomref05_escaped.s1c  s0 s1 x0 x1 x2 ret = (transomref05_escaped.s1c  s0 s1 x0 x1 x2 some).bind ret := by
  simp only [transomref05_escaped.s1c, bif_bind, sum_bind, Option.bind_assoc, Option.bind_some, Option.bind_none, Option.bind_fun_some]
theorem transomref05_escaped.ev  {s0 : S_transomref05_escaped_0} {s1 : S_transomref05_escaped_1} {a0 : ByteArray} : evAt (env_transomref05_escaped  s0 s1) [] [0] [.v (.one (.d .str a0))] [] some = transomref05_escaped.c  s0 s1 a0 (fun r => some ⟨.v (.one (.d .str r)), []⟩) := by
  kernel_rfl
theorem transomref05_escaped.s0_ev  {s0 : S_transomref05_escaped_0} {s1 : S_transomref05_escaped_1} {x0 : ByteArray} {x1 : Int} {x2 : List Int} : evAt (env_transomref05_escaped  s0 s1) [4, 1, 0, 1, 1] [0, 3, 4] [.v (.one (.d .str x0)), .v (.one (.own 0)), .v (.one (.d (.int .i64) x1))] [some (.own (.int .u8) false x2)] some = transomref05_escaped.s0c  s0 s1 x0 x1 x2 (fun r => some ⟨.v (.one (.d .str r)), []⟩) := by
  kernel_rfl
theorem transomref05_escaped.s1_ev  {s0 : S_transomref05_escaped_0} {s1 : S_transomref05_escaped_1} {x0 : ByteArray} {x1 : Int} {x2 : List Int} : evAt (env_transomref05_escaped  s0 s1) [1, 1, 5, 4, 1, 0, 1, 1] [0, 3, 4] [.v (.one (.d .str x0)), .v (.one (.own 0)), .v (.one (.d (.int .i64) x1))] [some (.own (.int .u8) false x2)] some = transomref05_escaped.s1c  s0 s1 x0 x1 x2 (fun r => some ⟨.v (.one (.d .str r)), []⟩) := by
  kernel_rfl
mutual
def transomref05_escaped.s0 : Nat → ByteArray → Int → (List Int) → Option ByteArray
  | 0, _, _, _ => none
  | k + 1, x0, x1, x2 => transomref05_escaped.s0c  (transomref05_escaped.s0 k) (transomref05_escaped.s1 k) x0 x1 x2 some
def transomref05_escaped.s1 : Nat → ByteArray → Int → (List Int) → Option ByteArray
  | 0, _, _, _ => none
  | k + 1, x0, x1, x2 => transomref05_escaped.s1c  (transomref05_escaped.s0 k) (transomref05_escaped.s1 k) x0 x1 x2 some
end
def transomref05_escaped.f (k : Nat) (a0 : ByteArray) : Option ByteArray := transomref05_escaped.c  (transomref05_escaped.s0 k) (transomref05_escaped.s1 k) a0 some
theorem transomref05_escaped.is  {s0 : S_transomref05_escaped_0} {s1 : S_transomref05_escaped_1} : FnIs (env_transomref05_escaped  s0 s1) 61 Go.Proofs.Tryz.f61 := ⟨Go.Proofs.Tryz.func61, rfl, rfl, rfl, by decide⟩
theorem transomref05_escaped.envok  {s0 : S_transomref05_escaped_0} {s1 : S_transomref05_escaped_1}  : EnvOK (env_transomref05_escaped  s0 s1).toEnv := by
  intro f c h
  simp only [env_transomref05_escaped] at h
  simp at h
noncomputable abbrev transomref05_escaped.E (k : Nat) : FEnv := env_transomref05_escaped  (transomref05_escaped.s0 k) (transomref05_escaped.s1 k)
theorem transomref05_escaped.hE (k : Nat) : EnvOK (transomref05_escaped.E k).toEnv := transomref05_escaped.envok 
theorem transomref05_escaped.segs_ok : ∀ k, ∀ s ∈ (transomref05_escaped.E k).segs, SegOK (transomref05_escaped.E k) Go.Proofs.Tryz.f61 s
  | 0 => by
    intro s hs
    simp only [transomref05_escaped.E, env_transomref05_escaped, List.mem_cons, List.not_mem_nil, or_false] at hs
    rcases hs with rfl | rfl
    · intro tvs blks res h; exfalso; simp only [seg_transomref05_escaped_0] at h; split at h <;> simp [transomref05_escaped.s0] at h
    · intro tvs blks res h; exfalso; simp only [seg_transomref05_escaped_1] at h; split at h <;> simp [transomref05_escaped.s1] at h
  | k + 1 => by
    intro s hs
    simp only [transomref05_escaped.E, env_transomref05_escaped, List.mem_cons, List.not_mem_nil, or_false] at hs
    rcases hs with rfl | rfl
    · refine seg_of_ev (E := transomref05_escaped.E k) (transomref05_escaped.hE k) ⟨transomref05_escaped.is.rvs⟩ (transomref05_escaped.segs_ok k) ?_
      intro tvs blks res h
      simp only [seg_transomref05_escaped_0] at h
      split at h
      · exact (transomref05_escaped.s0_ev.trans transomref05_escaped.s0c_bind).trans h
      · simp at h
    · refine seg_of_ev (E := transomref05_escaped.E k) (transomref05_escaped.hE k) ⟨transomref05_escaped.is.rvs⟩ (transomref05_escaped.segs_ok k) ?_
      intro tvs blks res h
      simp only [seg_transomref05_escaped_1] at h
      split at h
      · exact (transomref05_escaped.s1_ev.trans transomref05_escaped.s1c_bind).trans h
      · simp at h
theorem transomref05_escaped.ok (k : Nat) : CtOK Go.Proofs.Tryz.prog 61 (ct_transomref05_escaped (transomref05_escaped.f k)) := by
  refine ct_of_ev (E := transomref05_escaped.E k) transomref05_escaped.is (transomref05_escaped.hE k) (transomref05_escaped.segs_ok k) rfl ?_
  intro tvs blks res h
  simp only [ct_transomref05_escaped] at h
  split at h
  · exact (transomref05_escaped.ev.trans transomref05_escaped.c_bind).trans h
  · simp at h

/-! ### transomref05_Put: function 35 -/
abbrev G_transomref05_Put : Type := Int → Int → Int → ByteArray → Option (ByteArray × Int)
def ct_transomref05_Put (g : G_transomref05_Put) : Ct where
  nin := 0
  mv := []
  F := fun tvs blks {β} K => match tvs, blks with
    | [.v (.agg [(.d (.int .i64) a0), (.d (.int .i64) a1), (.d (.int .u64) a2), (.d .str a3)])], [] => (g a0 a1 a2 a3).bind fun r => K ⟨.tup [(.one (.d .str r.1)), (.one (.d (.int .i64) r.2))], []⟩
    | _, _ => none
  legit := fun tvs blks K r h => by
    split at h
    · obtain ⟨x, hx, hk⟩ := Option.bind_eq_some_iff.1 h
      refine ⟨_, ?_, hk⟩
      simp only [hx, Option.bind_some]
    · simp at h
noncomputable def env_transomref05_Put (g58 : G_transomref04_Check) (g59 : G_transomref05_Eight) (g60 : G_transomref02_Key) (g61 : G_transomref05_escaped)  : FEnv := { P := Go.Proofs.Tryz.prog, ct := fun m => if m = 58 then some (ct_transomref04_Check g58) else if m = 59 then some (ct_transomref05_Eight g59) else if m = 60 then some (ct_transomref02_Key g60) else if m = 61 then some (ct_transomref05_escaped g61) else none, N := 53, body := Go.Proofs.Tryz.f35.body.getD .skip, rvs := [.tmp 2, .tmp 3], rts := [9, 3], nin := 0, rmv := [], segs := [] }
def transomref05_Put.c {β : Type} (g58 : G_transomref04_Check) (g59 : G_transomref05_Eight) (g60 : G_transomref02_Key) (g61 : G_transomref05_escaped)  (a0 : Int) (a1 : Int) (a2 : Int) (a3 : ByteArray) (ret : (ByteArray × Int) → Option β) : Option β := ((g58 a0 a1 a2 a3).bind fun r0 => (bif (r0 != (0 : Int)) then (ret ((ByteArray.mk (List.toArray [])), r0)) else (bif (a0 == (1 : Int)) then (ret (((ByteArray.mk (List.toArray (List.map (fun n => (UInt8.ofNat (Int.toNat n))) [(IntKind.wrap IntKind.u8 a0)]))) ++ (ByteArray.mk (List.toArray (List.map (fun n => (UInt8.ofNat (Int.toNat n))) [(IntKind.wrap IntKind.u8 a1)])))), (0 : Int))) else (bif (a0 == (2 : Int)) then ((g59 (IntKind.wrap IntKind.u64 ((BitVec.toNat ((BitVec.ofInt (64 : Nat) (IntKind.wrap IntKind.u64 a1)) ^^^ (BitVec.ofInt (64 : Nat) (9223372036854775808 : Int)))) : Int))).bind fun r1 => (bif (true && (decide ((ByteArray.size r1) ≤ (4611686018427387903 : Nat)))) then (ret (((ByteArray.mk (List.toArray (List.map (fun n => (UInt8.ofNat (Int.toNat n))) [(IntKind.wrap IntKind.u8 a0)]))) ++ r1), (0 : Int))) else none)) else (bif (a0 == (3 : Int)) then ((g60 a2).bind fun r2 => ((g59 r2).bind fun r3 => (bif (true && (decide ((ByteArray.size r3) ≤ (4611686018427387903 : Nat)))) then (ret (((ByteArray.mk (List.toArray (List.map (fun n => (UInt8.ofNat (Int.toNat n))) [(IntKind.wrap IntKind.u8 a0)]))) ++ r3), (0 : Int))) else none))) else (bif (a0 == (4 : Int)) then (bif (a0 == (4 : Int)) then ((g61 a3).bind fun r4 => (bif (true && (decide ((ByteArray.size r4) ≤ (4611686018427387903 : Nat)))) then (ret (((ByteArray.mk (List.toArray (List.map (fun n => (UInt8.ofNat (Int.toNat n))) [(IntKind.wrap IntKind.u8 a0)]))) ++ r4), (0 : Int))) else none)) else (ret ((ByteArray.mk (List.toArray (List.map (fun n => (UInt8.ofNat (Int.toNat n))) [(IntKind.wrap IntKind.u8 a0)]))), (0 : Int)))) else (bif (a0 == (5 : Int)) then ((g61 a3).bind fun r5 => (bif (true && (decide ((ByteArray.size r5) ≤ (4611686018427387903 : Nat)))) then (ret (((ByteArray.mk (List.toArray (List.map (fun n => (UInt8.ofNat (Int.toNat n))) [(IntKind.wrap IntKind.u8 a0)]))) ++ r5), (0 : Int))) else none)) else (ret ((ByteArray.mk (List.toArray (List.map (fun n => (UInt8.ofNat (Int.toNat n))) [(IntKind.wrap IntKind.u8 a0)]))), (0 : Int))))))))))
theorem transomref05_Put.c_bind {β : Type} {g58 : G_transomref04_Check} {g59 : G_transomref05_Eight} {g60 : G_transomref02_Key} {g61 : G_transomref05_escaped}  {a0 : Int} {a1 : Int} {a2 : Int} {a3 : ByteArray} {ret : (ByteArray × Int) → Option β} : transomref05_Put.c g58 g59 g60 g61  a0 a1 a2 a3 ret = (transomref05_Put.c g58 g59 g60 g61  a0 a1 a2 a3 some).bind ret := by
  simp only [transomref05_Put.c, bif_bind, sum_bind, Option.bind_assoc, Option.bind_some, Option.bind_none, Option.bind_fun_some]
theorem transomref05_Put.ev {g58 : G_transomref04_Check} {g59 : G_transomref05_Eight} {g60 : G_transomref02_Key} {g61 : G_transomref05_escaped}  {a0 : Int} {a1 : Int} {a2 : Int} {a3 : ByteArray} : evAt (env_transomref05_Put g58 g59 g60 g61 ) [] [0] [.v (.agg [(.d (.int .i64) a0), (.d (.int .i64) a1), (.d (.int .u64) a2), (.d .str a3)])] [] some = transomref05_Put.c g58 g59 g60 g61  a0 a1 a2 a3 (fun r => some ⟨.tup [(.one (.d .str r.1)), (.one (.d (.int .i64) r.2))], []⟩) := by
  kernel_rfl
def transomref05_Put.f (k : Nat) (a0 : Int) (a1 : Int) (a2 : Int) (a3 : ByteArray) : Option (ByteArray × Int) := transomref05_Put.c (transomref04_Check.f k) (transomref05_Eight.f k) (transomref02_Key.f k) (transomref05_escaped.f k)  a0 a1 a2 a3 some
theorem transomref05_Put.is {g58 : G_transomref04_Check} {g59 : G_transomref05_Eight} {g60 : G_transomref02_Key} {g61 : G_transomref05_escaped}  : FnIs (env_transomref05_Put g58 g59 g60 g61 ) 35 Go.Proofs.Tryz.f35 := ⟨Go.Proofs.Tryz.func35, rfl, rfl, rfl, by decide⟩
theorem transomref05_Put.envok {g58 : G_transomref04_Check} {g59 : G_transomref05_Eight} {g60 : G_transomref02_Key} {g61 : G_transomref05_escaped}  (h58 : CtOK Go.Proofs.Tryz.prog 58 (ct_transomref04_Check g58)) (h59 : CtOK Go.Proofs.Tryz.prog 59 (ct_transomref05_Eight g59)) (h60 : CtOK Go.Proofs.Tryz.prog 60 (ct_transomref02_Key g60)) (h61 : CtOK Go.Proofs.Tryz.prog 61 (ct_transomref05_escaped g61)) : EnvOK (env_transomref05_Put g58 g59 g60 g61 ).toEnv := by
  intro f c h
  simp only [env_transomref05_Put] at h
  split at h
  · rename_i e; subst e; cases h; exact h58
  split at h
  · rename_i e; subst e; cases h; exact h59
  split at h
  · rename_i e; subst e; cases h; exact h60
  split at h
  · rename_i e; subst e; cases h; exact h61
  simp at h
noncomputable abbrev transomref05_Put.E (k : Nat) : FEnv := env_transomref05_Put (transomref04_Check.f k) (transomref05_Eight.f k) (transomref02_Key.f k) (transomref05_escaped.f k) 
theorem transomref05_Put.hE (k : Nat) : EnvOK (transomref05_Put.E k).toEnv := transomref05_Put.envok (transomref04_Check.ok k) (transomref05_Eight.ok k) (transomref02_Key.ok k) (transomref05_escaped.ok k)
theorem transomref05_Put.ok (k : Nat) : CtOK Go.Proofs.Tryz.prog 35 (ct_transomref05_Put (transomref05_Put.f k)) := by
  refine ct_of_ev (E := transomref05_Put.E k) transomref05_Put.is (transomref05_Put.hE k) (fun s hs => by simp [transomref05_Put.E, env_transomref05_Put] at hs) rfl ?_
  intro tvs blks res h
  simp only [ct_transomref05_Put] at h
  split at h
  · exact (transomref05_Put.ev.trans transomref05_Put.c_bind).trans h
  · simp at h
end Go.Proofs.YtddlebbjaadbeaaGreatDoor.Aev
