/- By a program of this session (AEV): functions of the program as plain functions, and that the machine does what they say. -/
import Derived.Test.YtdbbkmmillnaiaaGreatDoorTys
import Derived.Test.YtdbbkmmillnaiaaGreatDoorProg
import Derived.Laws.Externs
import Derived.Lib.Bytealg
import Derived.Test.YtdbbkmmillnaiaaGreatDoorF10
import Derived.Test.YtdbbkmmillnaiaaGreatDoorF12
import Derived.Test.YtdbbkmmillnaiaaGreatDoorF13
namespace Go.Proofs.YtdbbkmmillnaiaaGreatDoor.Aev
set_option linter.unusedVariables false
set_option linter.unusedSimpArgs false
set_option maxRecDepth 100000
set_option maxHeartbeats 4000000
open Go Go.Proofs.Tryz
namespace transomref09_fits
abbrev G : Type := ByteArray → Int → (List D_api_Col) → (List D_api_Value) → Option Int
def ct (g : G) : Ct where
  nin := 0
  mv := []
  F := fun tvs blks {β} K => match tvs, blks with
    | [.v (.agg [(.d .str a0), (.d (.int .i64) a1), (.d (.sl (.pair .str (.pair (.int .i64) (.pair .bool (.pair (.pair (.int .i64) (.pair (.int .i64) (.pair (.int .u64) (.pair .str .unit)))) .unit))))) a2)]), .v (.one (.d (.sl (.pair (.int .i64) (.pair (.int .i64) (.pair (.int .u64) (.pair .str .unit))))) a3))], [] => (g a0 a1 a2 a3).bind fun r => K ⟨.v (.one (.d (.int .i64) r)), []⟩
    | _, _ => none
  legit := fun _ _ K _ h => by split at h; exact (legit1 K h :); simp at h
abbrev S0 : Type := (List D_api_Value) → Int → ByteArray → Int → (List D_api_Col) → Option Int
abbrev S1 : Type := (List D_api_Value) → Int → Bool → ByteArray → Int → (List D_api_Col) → Option Int
abbrev S2 : Type := (List D_api_Value) → Int → ByteArray → Int → (List D_api_Col) → Option Int
def sg0 (g : S0) : Seg where
  path := [4, 1, 0, 1]
  prep := []
  keep := [1, 2, 5]
  F := fun tvs blks {β} K => match tvs, blks with
    | [.v (.one (.d (.sl (.pair (.int .i64) (.pair (.int .i64) (.pair (.int .u64) (.pair .str .unit))))) x0)), .v (.one (.ptr 0 0)), .v (.one (.d (.int .i64) x1))], [some (.box [(.d .str x2), (.d (.int .i64) x3), (.d (.sl (.pair .str (.pair (.int .i64) (.pair .bool (.pair (.pair (.int .i64) (.pair (.int .i64) (.pair (.int .u64) (.pair .str .unit)))) .unit))))) x4)])] => (g x0 x1 x2 x3 x4).bind fun r => K ⟨.v (.one (.d (.int .i64) r)), []⟩
    | _, _ => none
  legit := fun _ _ K _ h => by split at h; exact (legit1 K h :); simp at h
def sg1 (g : S1) : Seg where
  path := [1, 1, 4, 0, 1, 5, 4, 1, 0, 1]
  prep := []
  keep := [1, 2, 5, 57]
  F := fun tvs blks {β} K => match tvs, blks with
    | [.v (.one (.d (.sl (.pair (.int .i64) (.pair (.int .i64) (.pair (.int .u64) (.pair .str .unit))))) x0)), .v (.one (.ptr 0 0)), .v (.one (.d (.int .i64) x1)), .v (.one (.d .bool x2))], [some (.box [(.d .str x3), (.d (.int .i64) x4), (.d (.sl (.pair .str (.pair (.int .i64) (.pair .bool (.pair (.pair (.int .i64) (.pair (.int .i64) (.pair (.int .u64) (.pair .str .unit)))) .unit))))) x5)])] => (g x0 x1 x2 x3 x4 x5).bind fun r => K ⟨.v (.one (.d (.int .i64) r)), []⟩
    | _, _ => none
  legit := fun _ _ K _ h => by split at h; exact (legit1 K h :); simp at h
def sg2 (g : S2) : Seg where
  path := [1, 1, 5, 4, 1, 0, 1]
  prep := []
  keep := [1, 2, 5]
  F := fun tvs blks {β} K => match tvs, blks with
    | [.v (.one (.d (.sl (.pair (.int .i64) (.pair (.int .i64) (.pair (.int .u64) (.pair .str .unit))))) x0)), .v (.one (.ptr 0 0)), .v (.one (.d (.int .i64) x1))], [some (.box [(.d .str x2), (.d (.int .i64) x3), (.d (.sl (.pair .str (.pair (.int .i64) (.pair .bool (.pair (.pair (.int .i64) (.pair (.int .i64) (.pair (.int .u64) (.pair .str .unit)))) .unit))))) x4)])] => (g x0 x1 x2 x3 x4).bind fun r => K ⟨.v (.one (.d (.int .i64) r)), []⟩
    | _, _ => none
  legit := fun _ _ K _ h => by split at h; exact (legit1 K h :); simp at h
noncomputable def env (g68 : transomref04_Check.G) (s0 : S0) (s1 : S1) (s2 : S2) : FEnv := { P := prog, ct := fun m => if m = 68 then some (transomref04_Check.ct g68) else none, N := 58, body := f46.body.getD .skip, rvs := [.tmp 4], rts := [3], nin := 0, rmv := [], segs := [sg0 s0, sg1 s1, sg2 s2] }
def c {β : Type} (g68 : transomref04_Check.G) (s0 : S0) (s1 : S1) (s2 : S2) (a0 : ByteArray) (a1 : Int) (a2 : List D_api_Col) (a3 : List D_api_Value) (ret : Int → Option β) : Option β := ((s0 a3 (0 : Int) a0 a1 a2).bind ret)
def s0c {β : Type} (g68 : transomref04_Check.G) (s0 : S0) (s1 : S1) (s2 : S2) (x0 : List D_api_Value) (x1 : Int) (x2 : ByteArray) (x3 : Int) (x4 : List D_api_Col) (ret : Int → Option β) : Option β := (bif (decide (x1 < ((List.length x0) : Int))) then (bif ((decide ((0 : Int) ≤ x1)) && (decide (x1 < ((List.length x0) : Int)))) then ((g68 (elem T_api_Value x0 x1).1 (elem T_api_Value x0 x1).2.1 (elem T_api_Value x0 x1).2.2.1 (elem T_api_Value x0 x1).2.2.2.1).bind fun r0 => (bif (r0 != (0 : Int)) then (ret (r0)) else (bif ((decide ((0 : Int) ≤ x1)) && (decide (x1 < ((List.length x0) : Int)))) then (bif ((elem T_api_Value x0 x1).1 == (0 : Int)) then (bif ((decide ((0 : Int) ≤ x1)) && (decide (x1 < ((List.length x4) : Int)))) then (bif (!(elem T_api_Col x4 x1).2.2.1) then ((s1 x0 x1 true x2 x3 x4).bind ret) else (bif ((decide ((0 : Int) ≤ x1)) && (decide (x1 < ((List.length x0) : Int)))) then (bif ((elem T_api_Value x0 x1).1 != (0 : Int)) then (bif ((decide ((0 : Int) ≤ x1)) && (decide (x1 < ((List.length x0) : Int)))) then (bif ((decide ((0 : Int) ≤ x1)) && (decide (x1 < ((List.length x4) : Int)))) then ((s1 x0 x1 ((elem T_api_Value x0 x1).1 != (elem T_api_Col x4 x1).2.1) x2 x3 x4).bind ret) else none) else none) else ((s1 x0 x1 false x2 x3 x4).bind ret)) else none)) else none) else (bif ((decide ((0 : Int) ≤ x1)) && (decide (x1 < ((List.length x0) : Int)))) then (bif ((elem T_api_Value x0 x1).1 != (0 : Int)) then (bif ((decide ((0 : Int) ≤ x1)) && (decide (x1 < ((List.length x0) : Int)))) then (bif ((decide ((0 : Int) ≤ x1)) && (decide (x1 < ((List.length x4) : Int)))) then ((s1 x0 x1 ((elem T_api_Value x0 x1).1 != (elem T_api_Col x4 x1).2.1) x2 x3 x4).bind ret) else none) else none) else ((s1 x0 x1 false x2 x3 x4).bind ret)) else none)) else none))) else none) else (ret ((0 : Int))))
def s1c {β : Type} (g68 : transomref04_Check.G) (s0 : S0) (s1 : S1) (s2 : S2) (x0 : List D_api_Value) (x1 : Int) (x2 : Bool) (x3 : ByteArray) (x4 : Int) (x5 : List D_api_Col) (ret : Int → Option β) : Option β := (bif x2 then (ret ((11 : Int))) else ((s2 x0 x1 x3 x4 x5).bind ret))
def s2c {β : Type} (g68 : transomref04_Check.G) (s0 : S0) (s1 : S1) (s2 : S2) (x0 : List D_api_Value) (x1 : Int) (x2 : ByteArray) (x3 : Int) (x4 : List D_api_Col) (ret : Int → Option β) : Option β := ((s0 x0 (IntKind.wrap IntKind.i64 (x1 + (1 : Int))) x2 x3 x4).bind ret)
theorem c_bind {β : Type} {g68 : transomref04_Check.G} {s0 : S0} {s1 : S1} {s2 : S2} {a0 : ByteArray} {a1 : Int} {a2 : List D_api_Col} {a3 : List D_api_Value} {ret : Int → Option β} : c g68 s0 s1 s2 a0 a1 a2 a3 ret = (c g68 s0 s1 s2 a0 a1 a2 a3 some).bind ret := by
  simp only [c, bif_bind, sum_bind, oa, os, on, ofs]
theorem s0c_bind {β : Type} {g68 : transomref04_Check.G} {s0 : S0} {s1 : S1} {s2 : S2} {x0 : List D_api_Value} {x1 : Int} {x2 : ByteArray} {x3 : Int} {x4 : List D_api_Col} {ret : Int → Option β} : s0c g68 s0 s1 s2 x0 x1 x2 x3 x4 ret = (s0c g68 s0 s1 s2 x0 x1 x2 x3 x4 some).bind ret := by
  simp only [s0c, bif_bind, sum_bind, oa, os, on, ofs]
theorem s1c_bind {β : Type} {g68 : transomref04_Check.G} {s0 : S0} {s1 : S1} {s2 : S2} {x0 : List D_api_Value} {x1 : Int} {x2 : Bool} {x3 : ByteArray} {x4 : Int} {x5 : List D_api_Col} {ret : Int → Option β} : s1c g68 s0 s1 s2 x0 x1 x2 x3 x4 x5 ret = (s1c g68 s0 s1 s2 x0 x1 x2 x3 x4 x5 some).bind ret := by
  simp only [s1c, bif_bind, sum_bind, oa, os, on, ofs]
theorem s2c_bind {β : Type} {g68 : transomref04_Check.G} {s0 : S0} {s1 : S1} {s2 : S2} {x0 : List D_api_Value} {x1 : Int} {x2 : ByteArray} {x3 : Int} {x4 : List D_api_Col} {ret : Int → Option β} : s2c g68 s0 s1 s2 x0 x1 x2 x3 x4 ret = (s2c g68 s0 s1 s2 x0 x1 x2 x3 x4 some).bind ret := by
  simp only [s2c, bif_bind, sum_bind, oa, os, on, ofs]
theorem ev {g68 : transomref04_Check.G} {s0 : S0} {s1 : S1} {s2 : S2} {a0 : ByteArray} {a1 : Int} {a2 : List D_api_Col} {a3 : List D_api_Value} : evAt (env g68 s0 s1 s2) [] [0, 1] [.v (.agg [(.d .str a0), (.d (.int .i64) a1), (.d (.sl T_api_Col) a2)]), .v (.one (.d (.sl T_api_Value) a3))] [] some = c g68 s0 s1 s2 a0 a1 a2 a3 (fun r => some ⟨.v (.one (.d (.int .i64) r)), []⟩) := by
  kernel_rfl
theorem s0_ev {g68 : transomref04_Check.G} {s0 : S0} {s1 : S1} {s2 : S2} {x0 : List D_api_Value} {x1 : Int} {x2 : ByteArray} {x3 : Int} {x4 : List D_api_Col} : evAt (env g68 s0 s1 s2) [4, 1, 0, 1] [1, 2, 5] [.v (.one (.d (.sl T_api_Value) x0)), .v (.one (.ptr 0 0)), .v (.one (.d (.int .i64) x1))] [some (.box [(.d .str x2), (.d (.int .i64) x3), (.d (.sl T_api_Col) x4)])] some = s0c g68 s0 s1 s2 x0 x1 x2 x3 x4 (fun r => some ⟨.v (.one (.d (.int .i64) r)), []⟩) := by
  kernel_rfl
theorem s1_ev {g68 : transomref04_Check.G} {s0 : S0} {s1 : S1} {s2 : S2} {x0 : List D_api_Value} {x1 : Int} {x2 : Bool} {x3 : ByteArray} {x4 : Int} {x5 : List D_api_Col} : evAt (env g68 s0 s1 s2) [1, 1, 4, 0, 1, 5, 4, 1, 0, 1] [1, 2, 5, 57] [.v (.one (.d (.sl T_api_Value) x0)), .v (.one (.ptr 0 0)), .v (.one (.d (.int .i64) x1)), .v (.one (.d .bool x2))] [some (.box [(.d .str x3), (.d (.int .i64) x4), (.d (.sl T_api_Col) x5)])] some = s1c g68 s0 s1 s2 x0 x1 x2 x3 x4 x5 (fun r => some ⟨.v (.one (.d (.int .i64) r)), []⟩) := by
  kernel_rfl
theorem s2_ev {g68 : transomref04_Check.G} {s0 : S0} {s1 : S1} {s2 : S2} {x0 : List D_api_Value} {x1 : Int} {x2 : ByteArray} {x3 : Int} {x4 : List D_api_Col} : evAt (env g68 s0 s1 s2) [1, 1, 5, 4, 1, 0, 1] [1, 2, 5] [.v (.one (.d (.sl T_api_Value) x0)), .v (.one (.ptr 0 0)), .v (.one (.d (.int .i64) x1))] [some (.box [(.d .str x2), (.d (.int .i64) x3), (.d (.sl T_api_Col) x4)])] some = s2c g68 s0 s1 s2 x0 x1 x2 x3 x4 (fun r => some ⟨.v (.one (.d (.int .i64) r)), []⟩) := by
  kernel_rfl
mutual
def s0 : Nat → (List D_api_Value) → Int → ByteArray → Int → (List D_api_Col) → Option Int
  | 0, _, _, _, _, _ => none
  | k + 1, x0, x1, x2, x3, x4 => s0c (transomref04_Check.f k) (s0 k) (s1 k) (s2 k) x0 x1 x2 x3 x4 some
def s1 : Nat → (List D_api_Value) → Int → Bool → ByteArray → Int → (List D_api_Col) → Option Int
  | 0, _, _, _, _, _, _ => none
  | k + 1, x0, x1, x2, x3, x4, x5 => s1c (transomref04_Check.f k) (s0 k) (s1 k) (s2 k) x0 x1 x2 x3 x4 x5 some
def s2 : Nat → (List D_api_Value) → Int → ByteArray → Int → (List D_api_Col) → Option Int
  | 0, _, _, _, _, _ => none
  | k + 1, x0, x1, x2, x3, x4 => s2c (transomref04_Check.f k) (s0 k) (s1 k) (s2 k) x0 x1 x2 x3 x4 some
end
def f (k : Nat) (a0 : ByteArray) (a1 : Int) (a2 : List D_api_Col) (a3 : List D_api_Value) : Option Int := c (transomref04_Check.f k) (s0 k) (s1 k) (s2 k) a0 a1 a2 a3 some
theorem is {g68 : transomref04_Check.G} {s0 : S0} {s1 : S1} {s2 : S2} : FnIs (env g68 s0 s1 s2) 46 f46 := ⟨func46, rfl, rfl, rfl, by decide⟩
theorem envok {g68 : transomref04_Check.G} {s0 : S0} {s1 : S1} {s2 : S2} (h68 : CtOK prog 68 (transomref04_Check.ct g68)) : EnvOK (env g68 s0 s1 s2).toEnv := by
  intro f c h
  simp only [env] at h
  split at h
  · rename_i e; subst e; cases h; exact h68
  simp at h
noncomputable abbrev E (k : Nat) : FEnv := env (transomref04_Check.f k) (s0 k) (s1 k) (s2 k)
theorem hE (k : Nat) : EnvOK (E k).toEnv := envok (transomref04_Check.ok k)
theorem segs_ok : ∀ k, ∀ s ∈ (E k).segs, SegOK (E k) f46 s
  | 0 => by
    intro s hs
    simp only [E, env, List.mem_cons, List.not_mem_nil, or_false] at hs
    rcases hs with rfl | rfl | rfl
    · intro tvs blks res h; exfalso; simp only [sg0] at h; split at h <;> simp [s0] at h
    · intro tvs blks res h; exfalso; simp only [sg1] at h; split at h <;> simp [s1] at h
    · intro tvs blks res h; exfalso; simp only [sg2] at h; split at h <;> simp [s2] at h
  | k + 1 => by
    intro s hs
    simp only [E, env, List.mem_cons, List.not_mem_nil, or_false] at hs
    rcases hs with rfl | rfl | rfl
    · refine seg_of_ev (E := E k) (hE k) ⟨is.rvs⟩ (segs_ok k) ?_
      intro tvs blks res h
      simp only [sg0] at h
      split at h
      · exact (s0_ev.trans s0c_bind).trans h
      · simp at h
    · refine seg_of_ev (E := E k) (hE k) ⟨is.rvs⟩ (segs_ok k) ?_
      intro tvs blks res h
      simp only [sg1] at h
      split at h
      · exact (s1_ev.trans s1c_bind).trans h
      · simp at h
    · refine seg_of_ev (E := E k) (hE k) ⟨is.rvs⟩ (segs_ok k) ?_
      intro tvs blks res h
      simp only [sg2] at h
      split at h
      · exact (s2_ev.trans s2c_bind).trans h
      · simp at h
theorem ok (k : Nat) : CtOK prog 46 (ct (f k)) := by
  refine ct_of_ev (E := E k) is (hE k) (segs_ok k) rfl ?_
  intro tvs blks res h
  simp only [ct] at h
  split at h
  · exact (ev.trans c_bind).trans h
  · simp at h
end transomref09_fits
namespace transomref09_Fits
abbrev G : Type := ByteArray → Int → (List D_api_Col) → (List D_api_Value) → Option Int
def ct (g : G) : Ct where
  nin := 0
  mv := []
  F := fun tvs blks {β} K => match tvs, blks with
    | [.v (.agg [(.d .str a0), (.d (.int .i64) a1), (.d (.sl (.pair .str (.pair (.int .i64) (.pair .bool (.pair (.pair (.int .i64) (.pair (.int .i64) (.pair (.int .u64) (.pair .str .unit)))) .unit))))) a2)]), .v (.one (.d (.sl (.pair (.int .i64) (.pair (.int .i64) (.pair (.int .u64) (.pair .str .unit))))) a3))], [] => (g a0 a1 a2 a3).bind fun r => K ⟨.v (.one (.d (.int .i64) r)), []⟩
    | _, _ => none
  legit := fun _ _ K _ h => by split at h; exact (legit1 K h :); simp at h
noncomputable def env (g45 : transomref09_Check.G) (g46 : transomref09_fits.G)  : FEnv := { P := prog, ct := fun m => if m = 45 then some (transomref09_Check.ct g45) else if m = 46 then some (transomref09_fits.ct g46) else none, N := 20, body := f35.body.getD .skip, rvs := [.tmp 4], rts := [3], nin := 0, rmv := [], segs := [] }
def c {β : Type} (g45 : transomref09_Check.G) (g46 : transomref09_fits.G)  (a0 : ByteArray) (a1 : Int) (a2 : List D_api_Col) (a3 : List D_api_Value) (ret : Int → Option β) : Option β := ((g45 a0 a1 a2).bind fun r0 => (bif (r0 != (0 : Int)) then (ret (r0)) else (bif (((List.length a3) : Int) != ((List.length a2) : Int)) then (ret ((11 : Int))) else ((g46 a0 a1 a2 a3).bind fun r1 => (ret (r1))))))
theorem c_bind {β : Type} {g45 : transomref09_Check.G} {g46 : transomref09_fits.G}  {a0 : ByteArray} {a1 : Int} {a2 : List D_api_Col} {a3 : List D_api_Value} {ret : Int → Option β} : c g45 g46  a0 a1 a2 a3 ret = (c g45 g46  a0 a1 a2 a3 some).bind ret := by
  simp only [c, bif_bind, sum_bind, oa, os, on, ofs]
theorem ev {g45 : transomref09_Check.G} {g46 : transomref09_fits.G}  {a0 : ByteArray} {a1 : Int} {a2 : List D_api_Col} {a3 : List D_api_Value} : evAt (env g45 g46 ) [] [0, 1] [.v (.agg [(.d .str a0), (.d (.int .i64) a1), (.d (.sl T_api_Col) a2)]), .v (.one (.d (.sl T_api_Value) a3))] [] some = c g45 g46  a0 a1 a2 a3 (fun r => some ⟨.v (.one (.d (.int .i64) r)), []⟩) := by
  kernel_rfl
def f (k : Nat) (a0 : ByteArray) (a1 : Int) (a2 : List D_api_Col) (a3 : List D_api_Value) : Option Int := c (transomref09_Check.f k) (transomref09_fits.f k)  a0 a1 a2 a3 some
theorem is {g45 : transomref09_Check.G} {g46 : transomref09_fits.G}  : FnIs (env g45 g46 ) 35 f35 := ⟨func35, rfl, rfl, rfl, by decide⟩
theorem envok {g45 : transomref09_Check.G} {g46 : transomref09_fits.G}  (h45 : CtOK prog 45 (transomref09_Check.ct g45)) (h46 : CtOK prog 46 (transomref09_fits.ct g46)) : EnvOK (env g45 g46 ).toEnv := by
  intro f c h
  simp only [env] at h
  split at h
  · rename_i e; subst e; cases h; exact h45
  split at h
  · rename_i e; subst e; cases h; exact h46
  simp at h
noncomputable abbrev E (k : Nat) : FEnv := env (transomref09_Check.f k) (transomref09_fits.f k) 
theorem hE (k : Nat) : EnvOK (E k).toEnv := envok (transomref09_Check.ok k) (transomref09_fits.ok k)
theorem ok (k : Nat) : CtOK prog 35 (ct (f k)) := by
  refine ct_of_ev (E := E k) is (hE k) (fun s hs => by simp [E, env] at hs) rfl ?_
  intro tvs blks res h
  simp only [ct] at h
  split at h
  · exact (ev.trans c_bind).trans h
  · simp at h
end transomref09_Fits
namespace transomref05_Eight
abbrev G : Type := Int → Option ByteArray
def ct (g : G) : Ct where
  nin := 0
  mv := []
  F := fun tvs blks {β} K => match tvs, blks with
    | [.v (.one (.d (.int .u64) a0))], [] => (g a0).bind fun r => K ⟨.v (.one (.d .str r)), []⟩
    | _, _ => none
  legit := fun _ _ K _ h => by split at h; exact (legit1 K h :); simp at h
abbrev S0 : Type := Int → Int → (List Int) → Option ByteArray
def sg0 (g : S0) : Seg where
  path := [4, 1, 0, 1, 1]
  prep := [.own 3 (.int .u8)]
  keep := [0, 3, 4]
  F := fun tvs blks {β} K => match tvs, blks with
    | [.v (.one (.d (.int .u64) x0)), .v (.one (.own 0)), .v (.one (.d (.int .i64) x1))], [some (.own (.int .u8) false x2)] => (g x0 x1 x2).bind fun r => K ⟨.v (.one (.d .str r)), []⟩
    | _, _ => none
  legit := fun _ _ K _ h => by split at h; exact (legit1 K h :); simp at h
noncomputable def env  (s0 : S0) : FEnv := { P := prog, ct := fun m => none, N := 21, body := f69.body.getD .skip, rvs := [.tmp 2], rts := [9], nin := 0, rmv := [], segs := [sg0 s0] }
def c {β : Type}  (s0 : S0) (a0 : Int) (ret : ByteArray → Option β) : Option β := ((s0 a0 (0 : Int) []).bind ret)
def s0c {β : Type}  (s0 : S0) (x0 : Int) (x1 : Int) (x2 : List Int) (ret : ByteArray → Option β) : Option β := (bif (decide (x1 < (8 : Int))) then (bif (decide ((0 : Int) ≤ (IntKind.wrap IntKind.u64 (IntKind.wrap IntKind.i64 ((56 : Int) - (IntKind.wrap IntKind.i64 ((8 : Int) * x1))))))) then (bif (decide ((((List.length x2) + (1 : Nat)) * (1 : Nat)) ≤ (35184372088832 : Nat))) then ((s0 x0 (IntKind.wrap IntKind.i64 (x1 + (1 : Int))) (x2 ++ [(IntKind.wrap IntKind.u8 (Int.fdiv x0 ((2 : Int) ^ (Min.min (Int.toNat (IntKind.wrap IntKind.u64 (IntKind.wrap IntKind.i64 ((56 : Int) - (IntKind.wrap IntKind.i64 ((8 : Int) * x1)))))) (64 : Nat)))))])).bind ret) else none) else none) else (ret ((ByteArray.mk (List.toArray (List.map (fun n => (UInt8.ofNat (Int.toNat n))) x2))))))
theorem c_bind {β : Type}  {s0 : S0} {a0 : Int} {ret : ByteArray → Option β} : c  s0 a0 ret = (c  s0 a0 some).bind ret := by
  simp only [c, bif_bind, sum_bind, oa, os, on, ofs]
theorem s0c_bind {β : Type}  {s0 : S0} {x0 : Int} {x1 : Int} {x2 : List Int} {ret : ByteArray → Option β} : s0c  s0 x0 x1 x2 ret = (s0c  s0 x0 x1 x2 some).bind ret := by
  simp only [s0c, bif_bind, sum_bind, oa, os, on, ofs]
theorem ev  {s0 : S0} {a0 : Int} : evAt (env  s0) [] [0] [.v (.one (.d (.int .u64) a0))] [] some = c  s0 a0 (fun r => some ⟨.v (.one (.d .str r)), []⟩) := by
  kernel_rfl
theorem s0_ev  {s0 : S0} {x0 : Int} {x1 : Int} {x2 : List Int} : evAt (env  s0) [4, 1, 0, 1, 1] [0, 3, 4] [.v (.one (.d (.int .u64) x0)), .v (.one (.own 0)), .v (.one (.d (.int .i64) x1))] [some (.own (.int .u8) false x2)] some = s0c  s0 x0 x1 x2 (fun r => some ⟨.v (.one (.d .str r)), []⟩) := by
  kernel_rfl
def s0 : Nat → Int → Int → (List Int) → Option ByteArray
  | 0, _, _, _ => none
  | k + 1, x0, x1, x2 => s0c  (s0 k) x0 x1 x2 some
def f (k : Nat) (a0 : Int) : Option ByteArray := c  (s0 k) a0 some
theorem is  {s0 : S0} : FnIs (env  s0) 69 f69 := ⟨func69, rfl, rfl, rfl, by decide⟩
theorem envok  {s0 : S0}  : EnvOK (env  s0).toEnv := by
  intro f c h
  simp only [env] at h
  simp at h
noncomputable abbrev E (k : Nat) : FEnv := env  (s0 k)
theorem hE (k : Nat) : EnvOK (E k).toEnv := envok 
theorem segs_ok : ∀ k, ∀ s ∈ (E k).segs, SegOK (E k) f69 s
  | 0 => by
    intro s hs
    simp only [E, env, List.mem_cons, List.not_mem_nil, or_false] at hs
    rcases hs with rfl
    · intro tvs blks res h; exfalso; simp only [sg0] at h; split at h <;> simp [s0] at h
  | k + 1 => by
    intro s hs
    simp only [E, env, List.mem_cons, List.not_mem_nil, or_false] at hs
    rcases hs with rfl
    · refine seg_of_ev (E := E k) (hE k) ⟨is.rvs⟩ (segs_ok k) ?_
      intro tvs blks res h
      simp only [sg0] at h
      split at h
      · exact (s0_ev.trans s0c_bind).trans h
      · simp at h
theorem ok (k : Nat) : CtOK prog 69 (ct (f k)) := by
  refine ct_of_ev (E := E k) is (hE k) (segs_ok k) rfl ?_
  intro tvs blks res h
  simp only [ct] at h
  split at h
  · exact (ev.trans c_bind).trans h
  · simp at h
end transomref05_Eight
namespace transomref02_Key
abbrev G : Type := Int → Option Int
def ct (g : G) : Ct where
  nin := 0
  mv := []
  F := fun tvs blks {β} K => match tvs, blks with
    | [.v (.one (.d (.int .u64) a0))], [] => (g a0).bind fun r => K ⟨.v (.one (.d (.int .u64) r)), []⟩
    | _, _ => none
  legit := fun _ _ K _ h => by split at h; exact (legit1 K h :); simp at h
noncomputable def env (g84 : transomref02_Canon.G)  : FEnv := { P := prog, ct := fun m => if m = 84 then some (transomref02_Canon.ct g84) else none, N := 12, body := f70.body.getD .skip, rvs := [.tmp 2], rts := [47], nin := 0, rmv := [], segs := [] }
def c {β : Type} (g84 : transomref02_Canon.G)  (a0 : Int) (ret : Int → Option β) : Option β := ((g84 a0).bind fun r0 => (bif ((Int.fdiv r0 (9223372036854775808 : Int)) == (0 : Int)) then (ret ((IntKind.wrap IntKind.u64 ((BitVec.toNat ((BitVec.ofInt (64 : Nat) r0) ||| (BitVec.ofInt (64 : Nat) (9223372036854775808 : Int)))) : Int)))) else (ret ((IntKind.wrap IntKind.u64 ((BitVec.toNat ((BitVec.ofInt (64 : Nat) (18446744073709551615 : Int)) ^^^ (BitVec.ofInt (64 : Nat) r0))) : Int))))))
theorem c_bind {β : Type} {g84 : transomref02_Canon.G}  {a0 : Int} {ret : Int → Option β} : c g84  a0 ret = (c g84  a0 some).bind ret := by
  simp only [c, bif_bind, sum_bind, oa, os, on, ofs]
theorem ev {g84 : transomref02_Canon.G}  {a0 : Int} : evAt (env g84 ) [] [0] [.v (.one (.d (.int .u64) a0))] [] some = c g84  a0 (fun r => some ⟨.v (.one (.d (.int .u64) r)), []⟩) := by
  kernel_rfl
def f (k : Nat) (a0 : Int) : Option Int := c (transomref02_Canon.f k)  a0 some
theorem is {g84 : transomref02_Canon.G}  : FnIs (env g84 ) 70 f70 := ⟨func70, rfl, rfl, rfl, by decide⟩
theorem envok {g84 : transomref02_Canon.G}  (h84 : CtOK prog 84 (transomref02_Canon.ct g84)) : EnvOK (env g84 ).toEnv := by
  intro f c h
  simp only [env] at h
  split at h
  · rename_i e; subst e; cases h; exact h84
  simp at h
noncomputable abbrev E (k : Nat) : FEnv := env (transomref02_Canon.f k) 
theorem hE (k : Nat) : EnvOK (E k).toEnv := envok (transomref02_Canon.ok k)
theorem ok (k : Nat) : CtOK prog 70 (ct (f k)) := by
  refine ct_of_ev (E := E k) is (hE k) (fun s hs => by simp [E, env] at hs) rfl ?_
  intro tvs blks res h
  simp only [ct] at h
  split at h
  · exact (ev.trans c_bind).trans h
  · simp at h
end transomref02_Key
namespace transomref05_escaped
abbrev G : Type := ByteArray → Option ByteArray
def ct (g : G) : Ct where
  nin := 0
  mv := []
  F := fun tvs blks {β} K => match tvs, blks with
    | [.v (.one (.d .str a0))], [] => (g a0).bind fun r => K ⟨.v (.one (.d .str r)), []⟩
    | _, _ => none
  legit := fun _ _ K _ h => by split at h; exact (legit1 K h :); simp at h
abbrev S0 : Type := ByteArray → Int → (List Int) → Option ByteArray
abbrev S1 : Type := ByteArray → Int → (List Int) → Option ByteArray
def sg0 (g : S0) : Seg where
  path := [4, 1, 0, 1, 1]
  prep := [.own 3 (.int .u8)]
  keep := [0, 3, 4]
  F := fun tvs blks {β} K => match tvs, blks with
    | [.v (.one (.d .str x0)), .v (.one (.own 0)), .v (.one (.d (.int .i64) x1))], [some (.own (.int .u8) false x2)] => (g x0 x1 x2).bind fun r => K ⟨.v (.one (.d .str r)), []⟩
    | _, _ => none
  legit := fun _ _ K _ h => by split at h; exact (legit1 K h :); simp at h
def sg1 (g : S1) : Seg where
  path := [1, 1, 5, 4, 1, 0, 1, 1]
  prep := []
  keep := [0, 3, 4]
  F := fun tvs blks {β} K => match tvs, blks with
    | [.v (.one (.d .str x0)), .v (.one (.own 0)), .v (.one (.d (.int .i64) x1))], [some (.own (.int .u8) false x2)] => (g x0 x1 x2).bind fun r => K ⟨.v (.one (.d .str r)), []⟩
    | _, _ => none
  legit := fun _ _ K _ h => by split at h; exact (legit1 K h :); simp at h
noncomputable def env  (s0 : S0) (s1 : S1) : FEnv := { P := prog, ct := fun m => none, N := 29, body := f71.body.getD .skip, rvs := [.tmp 2], rts := [9], nin := 0, rmv := [], segs := [sg0 s0, sg1 s1] }
def c {β : Type}  (s0 : S0) (s1 : S1) (a0 : ByteArray) (ret : ByteArray → Option β) : Option β := ((s0 a0 (0 : Int) []).bind ret)
def s0c {β : Type}  (s0 : S0) (s1 : S1) (x0 : ByteArray) (x1 : Int) (x2 : List Int) (ret : ByteArray → Option β) : Option β := (bif (decide (x1 < ((ByteArray.size x0) : Int))) then (bif ((decide ((0 : Int) ≤ x1)) && (decide (x1 < ((ByteArray.size x0) : Int)))) then (bif (decide ((((List.length x2) + (1 : Nat)) * (1 : Nat)) ≤ (35184372088832 : Nat))) then (bif ((decide ((0 : Int) ≤ x1)) && (decide (x1 < ((ByteArray.size x0) : Int)))) then (bif ((bt x0 x1) == (0 : Int)) then (bif (decide ((((List.length (x2 ++ [(bt x0 x1)])) + (1 : Nat)) * (1 : Nat)) ≤ (35184372088832 : Nat))) then ((s1 x0 x1 ((x2 ++ [(bt x0 x1)]) ++ [(255 : Int)])).bind ret) else none) else ((s1 x0 x1 (x2 ++ [(bt x0 x1)])).bind ret)) else none) else none) else none) else (bif (decide ((((List.length x2) + (2 : Nat)) * (1 : Nat)) ≤ (35184372088832 : Nat))) then (ret ((ByteArray.mk (List.toArray (List.map (fun n => (UInt8.ofNat (Int.toNat n))) (x2 ++ [(0 : Int), (0 : Int)])))))) else none))
def s1c {β : Type}  (s0 : S0) (s1 : S1) (x0 : ByteArray) (x1 : Int) (x2 : List Int) (ret : ByteArray → Option β) : Option β := ((s0 x0 (IntKind.wrap IntKind.i64 (x1 + (1 : Int))) x2).bind ret)
theorem c_bind {β : Type}  {s0 : S0} {s1 : S1} {a0 : ByteArray} {ret : ByteArray → Option β} : c  s0 s1 a0 ret = (c  s0 s1 a0 some).bind ret := by
  simp only [c, bif_bind, sum_bind, oa, os, on, ofs]
theorem s0c_bind {β : Type}  {s0 : S0} {s1 : S1} {x0 : ByteArray} {x1 : Int} {x2 : List Int} {ret : ByteArray → Option β} : s0c  s0 s1 x0 x1 x2 ret = (s0c  s0 s1 x0 x1 x2 some).bind ret := by
  simp only [s0c, bif_bind, sum_bind, oa, os, on, ofs]
theorem s1c_bind {β : Type}  {s0 : S0} {s1 : S1} {x0 : ByteArray} {x1 : Int} {x2 : List Int} {ret : ByteArray → Option β} : s1c  s0 s1 x0 x1 x2 ret = (s1c  s0 s1 x0 x1 x2 some).bind ret := by
  simp only [s1c, bif_bind, sum_bind, oa, os, on, ofs]
theorem ev  {s0 : S0} {s1 : S1} {a0 : ByteArray} : evAt (env  s0 s1) [] [0] [.v (.one (.d .str a0))] [] some = c  s0 s1 a0 (fun r => some ⟨.v (.one (.d .str r)), []⟩) := by
  kernel_rfl
theorem s0_ev  {s0 : S0} {s1 : S1} {x0 : ByteArray} {x1 : Int} {x2 : List Int} : evAt (env  s0 s1) [4, 1, 0, 1, 1] [0, 3, 4] [.v (.one (.d .str x0)), .v (.one (.own 0)), .v (.one (.d (.int .i64) x1))] [some (.own (.int .u8) false x2)] some = s0c  s0 s1 x0 x1 x2 (fun r => some ⟨.v (.one (.d .str r)), []⟩) := by
  kernel_rfl
theorem s1_ev  {s0 : S0} {s1 : S1} {x0 : ByteArray} {x1 : Int} {x2 : List Int} : evAt (env  s0 s1) [1, 1, 5, 4, 1, 0, 1, 1] [0, 3, 4] [.v (.one (.d .str x0)), .v (.one (.own 0)), .v (.one (.d (.int .i64) x1))] [some (.own (.int .u8) false x2)] some = s1c  s0 s1 x0 x1 x2 (fun r => some ⟨.v (.one (.d .str r)), []⟩) := by
  kernel_rfl
mutual
def s0 : Nat → ByteArray → Int → (List Int) → Option ByteArray
  | 0, _, _, _ => none
  | k + 1, x0, x1, x2 => s0c  (s0 k) (s1 k) x0 x1 x2 some
def s1 : Nat → ByteArray → Int → (List Int) → Option ByteArray
  | 0, _, _, _ => none
  | k + 1, x0, x1, x2 => s1c  (s0 k) (s1 k) x0 x1 x2 some
end
def f (k : Nat) (a0 : ByteArray) : Option ByteArray := c  (s0 k) (s1 k) a0 some
theorem is  {s0 : S0} {s1 : S1} : FnIs (env  s0 s1) 71 f71 := ⟨func71, rfl, rfl, rfl, by decide⟩
theorem envok  {s0 : S0} {s1 : S1}  : EnvOK (env  s0 s1).toEnv := by
  intro f c h
  simp only [env] at h
  simp at h
noncomputable abbrev E (k : Nat) : FEnv := env  (s0 k) (s1 k)
theorem hE (k : Nat) : EnvOK (E k).toEnv := envok 
theorem segs_ok : ∀ k, ∀ s ∈ (E k).segs, SegOK (E k) f71 s
  | 0 => by
    intro s hs
    simp only [E, env, List.mem_cons, List.not_mem_nil, or_false] at hs
    rcases hs with rfl | rfl
    · intro tvs blks res h; exfalso; simp only [sg0] at h; split at h <;> simp [s0] at h
    · intro tvs blks res h; exfalso; simp only [sg1] at h; split at h <;> simp [s1] at h
  | k + 1 => by
    intro s hs
    simp only [E, env, List.mem_cons, List.not_mem_nil, or_false] at hs
    rcases hs with rfl | rfl
    · refine seg_of_ev (E := E k) (hE k) ⟨is.rvs⟩ (segs_ok k) ?_
      intro tvs blks res h
      simp only [sg0] at h
      split at h
      · exact (s0_ev.trans s0c_bind).trans h
      · simp at h
    · refine seg_of_ev (E := E k) (hE k) ⟨is.rvs⟩ (segs_ok k) ?_
      intro tvs blks res h
      simp only [sg1] at h
      split at h
      · exact (s1_ev.trans s1c_bind).trans h
      · simp at h
theorem ok (k : Nat) : CtOK prog 71 (ct (f k)) := by
  refine ct_of_ev (E := E k) is (hE k) (segs_ok k) rfl ?_
  intro tvs blks res h
  simp only [ct] at h
  split at h
  · exact (ev.trans c_bind).trans h
  · simp at h
end transomref05_escaped
namespace transomref05_Put
abbrev G : Type := Int → Int → Int → ByteArray → Option (ByteArray × Int)
def ct (g : G) : Ct where
  nin := 0
  mv := []
  F := fun tvs blks {β} K => match tvs, blks with
    | [.v (.agg [(.d (.int .i64) a0), (.d (.int .i64) a1), (.d (.int .u64) a2), (.d .str a3)])], [] => (g a0 a1 a2 a3).bind fun r => K ⟨.tup [(.one (.d .str r.1)), (.one (.d (.int .i64) r.2))], []⟩
    | _, _ => none
  legit := fun _ _ K _ h => by split at h; exact (legit1 K h :); simp at h
noncomputable def env (g68 : transomref04_Check.G) (g69 : transomref05_Eight.G) (g70 : transomref02_Key.G) (g71 : transomref05_escaped.G)  : FEnv := { P := prog, ct := fun m => if m = 68 then some (transomref04_Check.ct g68) else if m = 69 then some (transomref05_Eight.ct g69) else if m = 70 then some (transomref02_Key.ct g70) else if m = 71 then some (transomref05_escaped.ct g71) else none, N := 53, body := f47.body.getD .skip, rvs := [.tmp 2, .tmp 3], rts := [9, 3], nin := 0, rmv := [], segs := [] }
def c {β : Type} (g68 : transomref04_Check.G) (g69 : transomref05_Eight.G) (g70 : transomref02_Key.G) (g71 : transomref05_escaped.G)  (a0 : Int) (a1 : Int) (a2 : Int) (a3 : ByteArray) (ret : (ByteArray × Int) → Option β) : Option β := ((g68 a0 a1 a2 a3).bind fun r0 => (bif (r0 != (0 : Int)) then (ret ((ByteArray.mk (List.toArray [])), r0)) else (bif (a0 == (1 : Int)) then (ret (((ByteArray.mk (List.toArray (List.map (fun n => (UInt8.ofNat (Int.toNat n))) [(IntKind.wrap IntKind.u8 a0)]))) ++ (ByteArray.mk (List.toArray (List.map (fun n => (UInt8.ofNat (Int.toNat n))) [(IntKind.wrap IntKind.u8 a1)])))), (0 : Int))) else (bif (a0 == (2 : Int)) then ((g69 (IntKind.wrap IntKind.u64 ((BitVec.toNat ((BitVec.ofInt (64 : Nat) (IntKind.wrap IntKind.u64 a1)) ^^^ (BitVec.ofInt (64 : Nat) (9223372036854775808 : Int)))) : Int))).bind fun r1 => (bif (true && (decide ((ByteArray.size r1) ≤ (4611686018427387903 : Nat)))) then (ret (((ByteArray.mk (List.toArray (List.map (fun n => (UInt8.ofNat (Int.toNat n))) [(IntKind.wrap IntKind.u8 a0)]))) ++ r1), (0 : Int))) else none)) else (bif (a0 == (3 : Int)) then ((g70 a2).bind fun r2 => ((g69 r2).bind fun r3 => (bif (true && (decide ((ByteArray.size r3) ≤ (4611686018427387903 : Nat)))) then (ret (((ByteArray.mk (List.toArray (List.map (fun n => (UInt8.ofNat (Int.toNat n))) [(IntKind.wrap IntKind.u8 a0)]))) ++ r3), (0 : Int))) else none))) else (bif (a0 == (4 : Int)) then (bif (a0 == (4 : Int)) then ((g71 a3).bind fun r4 => (bif (true && (decide ((ByteArray.size r4) ≤ (4611686018427387903 : Nat)))) then (ret (((ByteArray.mk (List.toArray (List.map (fun n => (UInt8.ofNat (Int.toNat n))) [(IntKind.wrap IntKind.u8 a0)]))) ++ r4), (0 : Int))) else none)) else (ret ((ByteArray.mk (List.toArray (List.map (fun n => (UInt8.ofNat (Int.toNat n))) [(IntKind.wrap IntKind.u8 a0)]))), (0 : Int)))) else (bif (a0 == (5 : Int)) then ((g71 a3).bind fun r5 => (bif (true && (decide ((ByteArray.size r5) ≤ (4611686018427387903 : Nat)))) then (ret (((ByteArray.mk (List.toArray (List.map (fun n => (UInt8.ofNat (Int.toNat n))) [(IntKind.wrap IntKind.u8 a0)]))) ++ r5), (0 : Int))) else none)) else (ret ((ByteArray.mk (List.toArray (List.map (fun n => (UInt8.ofNat (Int.toNat n))) [(IntKind.wrap IntKind.u8 a0)]))), (0 : Int))))))))))
theorem c_bind {β : Type} {g68 : transomref04_Check.G} {g69 : transomref05_Eight.G} {g70 : transomref02_Key.G} {g71 : transomref05_escaped.G}  {a0 : Int} {a1 : Int} {a2 : Int} {a3 : ByteArray} {ret : (ByteArray × Int) → Option β} : c g68 g69 g70 g71  a0 a1 a2 a3 ret = (c g68 g69 g70 g71  a0 a1 a2 a3 some).bind ret := by
  simp only [c, bif_bind, sum_bind, oa, os, on, ofs]
theorem ev {g68 : transomref04_Check.G} {g69 : transomref05_Eight.G} {g70 : transomref02_Key.G} {g71 : transomref05_escaped.G}  {a0 : Int} {a1 : Int} {a2 : Int} {a3 : ByteArray} : evAt (env g68 g69 g70 g71 ) [] [0] [.v (.agg [(.d (.int .i64) a0), (.d (.int .i64) a1), (.d (.int .u64) a2), (.d .str a3)])] [] some = c g68 g69 g70 g71  a0 a1 a2 a3 (fun r => some ⟨.tup [(.one (.d .str r.1)), (.one (.d (.int .i64) r.2))], []⟩) := by
  kernel_rfl
def f (k : Nat) (a0 : Int) (a1 : Int) (a2 : Int) (a3 : ByteArray) : Option (ByteArray × Int) := c (transomref04_Check.f k) (transomref05_Eight.f k) (transomref02_Key.f k) (transomref05_escaped.f k)  a0 a1 a2 a3 some
theorem is {g68 : transomref04_Check.G} {g69 : transomref05_Eight.G} {g70 : transomref02_Key.G} {g71 : transomref05_escaped.G}  : FnIs (env g68 g69 g70 g71 ) 47 f47 := ⟨func47, rfl, rfl, rfl, by decide⟩
theorem envok {g68 : transomref04_Check.G} {g69 : transomref05_Eight.G} {g70 : transomref02_Key.G} {g71 : transomref05_escaped.G}  (h68 : CtOK prog 68 (transomref04_Check.ct g68)) (h69 : CtOK prog 69 (transomref05_Eight.ct g69)) (h70 : CtOK prog 70 (transomref02_Key.ct g70)) (h71 : CtOK prog 71 (transomref05_escaped.ct g71)) : EnvOK (env g68 g69 g70 g71 ).toEnv := by
  intro f c h
  simp only [env] at h
  split at h
  · rename_i e; subst e; cases h; exact h68
  split at h
  · rename_i e; subst e; cases h; exact h69
  split at h
  · rename_i e; subst e; cases h; exact h70
  split at h
  · rename_i e; subst e; cases h; exact h71
  simp at h
noncomputable abbrev E (k : Nat) : FEnv := env (transomref04_Check.f k) (transomref05_Eight.f k) (transomref02_Key.f k) (transomref05_escaped.f k) 
theorem hE (k : Nat) : EnvOK (E k).toEnv := envok (transomref04_Check.ok k) (transomref05_Eight.ok k) (transomref02_Key.ok k) (transomref05_escaped.ok k)
theorem ok (k : Nat) : CtOK prog 47 (ct (f k)) := by
  refine ct_of_ev (E := E k) is (hE k) (fun s hs => by simp [E, env] at hs) rfl ?_
  intro tvs blks res h
  simp only [ct] at h
  split at h
  · exact (ev.trans c_bind).trans h
  · simp at h
end transomref05_Put
end Go.Proofs.YtdbbkmmillnaiaaGreatDoor.Aev
