/- By a program of this session (AEV): functions of the program as plain functions, and that the machine does what they say. -/
import Derived.Test.YtdbbkmmillnaiaaGreatDoorTys
import Derived.Test.YtdbbkmmillnaiaaGreatDoorProg
import Derived.Laws.Externs
import Derived.Lib.Bytealg
import Derived.Test.YtdbbkmmillnaiaaGreatDoorF9
import Derived.Test.YtdbbkmmillnaiaaGreatDoorF12
namespace Go.Proofs.YtdbbkmmillnaiaaGreatDoor.Aev
set_option linter.unusedVariables false
set_option linter.unusedSimpArgs false
set_option maxRecDepth 100000
set_option maxHeartbeats 4000000
open Go Go.Proofs.Tryz
namespace transomref08_Unlike
abbrev G : Type := (List ByteArray) → Option Bool
def ct (g : G) : Ct where
  nin := 0
  mv := []
  F := fun tvs blks {β} K => match tvs, blks with
    | [.v (.one (.d (.sl .str) a0))], [] => (g a0).bind fun r => K ⟨.v (.one (.d .bool r)), []⟩
    | _, _ => none
  legit := fun _ _ K _ h => by split at h; exact (legit1 K h :); simp at h
abbrev S0 : Type := (List ByteArray) → Int → Option Bool
def sg0 (g : S0) : Seg where
  path := [4, 1, 0, 1]
  prep := []
  keep := [0, 3]
  F := fun tvs blks {β} K => match tvs, blks with
    | [.v (.one (.d (.sl .str) x0)), .v (.one (.d (.int .i64) x1))], [] => (g x0 x1).bind fun r => K ⟨.v (.one (.d .bool r)), []⟩
    | _, _ => none
  legit := fun _ _ K _ h => by split at h; exact (legit1 K h :); simp at h
noncomputable def env (g83 : transomref08_Find.G) (s0 : S0) : FEnv := { P := prog, ct := fun m => if m = 83 then some (transomref08_Find.ct g83) else none, N := 18, body := f66.body.getD .skip, rvs := [.tmp 2], rts := [4], nin := 0, rmv := [], segs := [sg0 s0] }
def c {β : Type} (g83 : transomref08_Find.G) (s0 : S0) (a0 : List ByteArray) (ret : Bool → Option β) : Option β := ((s0 a0 (0 : Int)).bind ret)
def s0c {β : Type} (g83 : transomref08_Find.G) (s0 : S0) (x0 : List ByteArray) (x1 : Int) (ret : Bool → Option β) : Option β := (bif (decide (x1 < ((List.length x0) : Int))) then (bif ((decide ((0 : Int) ≤ x1)) && (decide (x1 < ((List.length x0) : Int)))) then ((g83 x0 (elem Ty.str x0 x1)).bind fun r0 => (bif (r0 != x1) then (ret (false)) else ((s0 x0 (IntKind.wrap IntKind.i64 (x1 + (1 : Int)))).bind ret))) else none) else (ret (true)))
theorem c_bind {β : Type} {g83 : transomref08_Find.G} {s0 : S0} {a0 : List ByteArray} {ret : Bool → Option β} : c g83 s0 a0 ret = (c g83 s0 a0 some).bind ret := by
  simp only [c, bif_bind, sum_bind, oa, os, on, ofs]
theorem s0c_bind {β : Type} {g83 : transomref08_Find.G} {s0 : S0} {x0 : List ByteArray} {x1 : Int} {ret : Bool → Option β} : s0c g83 s0 x0 x1 ret = (s0c g83 s0 x0 x1 some).bind ret := by
  simp only [s0c, bif_bind, sum_bind, oa, os, on, ofs]
theorem ev {g83 : transomref08_Find.G} {s0 : S0} {a0 : List ByteArray} : evAt (env g83 s0) [] [0] [.v (.one (.d (.sl .str) a0))] [] some = c g83 s0 a0 (fun r => some ⟨.v (.one (.d .bool r)), []⟩) := by
  kernel_rfl
theorem s0_ev {g83 : transomref08_Find.G} {s0 : S0} {x0 : List ByteArray} {x1 : Int} : evAt (env g83 s0) [4, 1, 0, 1] [0, 3] [.v (.one (.d (.sl .str) x0)), .v (.one (.d (.int .i64) x1))] [] some = s0c g83 s0 x0 x1 (fun r => some ⟨.v (.one (.d .bool r)), []⟩) := by
  kernel_rfl
def s0 : Nat → (List ByteArray) → Int → Option Bool
  | 0, _, _ => none
  | k + 1, x0, x1 => s0c (transomref08_Find.f k) (s0 k) x0 x1 some
def f (k : Nat) (a0 : List ByteArray) : Option Bool := c (transomref08_Find.f k) (s0 k) a0 some
theorem is {g83 : transomref08_Find.G} {s0 : S0} : FnIs (env g83 s0) 66 f66 := ⟨func66, rfl, rfl, rfl, by decide⟩
theorem envok {g83 : transomref08_Find.G} {s0 : S0} (h83 : CtOK prog 83 (transomref08_Find.ct g83)) : EnvOK (env g83 s0).toEnv := by
  intro f c h
  simp only [env] at h
  split at h
  · rename_i e; subst e; cases h; exact h83
  simp at h
noncomputable abbrev E (k : Nat) : FEnv := env (transomref08_Find.f k) (s0 k)
theorem hE (k : Nat) : EnvOK (E k).toEnv := envok (transomref08_Find.ok k)
theorem segs_ok : ∀ k, ∀ s ∈ (E k).segs, SegOK (E k) f66 s
  | 0 => by
    intro s hs
    simp only [E, env, List.mem_cons, List.not_mem_nil, or_false] at hs
    rcases hs with rfl
    · intro tvs blks res h; exfalso; simp only [sg0] at h; split at h <;> simp [s0] at h
  | k + 1 => by
    intro s hs
    simp only [E, env, List.mem_cons, List.not_mem_nil, or_false] at hs
    rcases hs with rfl
    · refine seg_of_ev (E := E k) (hE k) ⟨is.rvs⟩ (segs_ok k) ?_
      intro tvs blks res h
      simp only [sg0] at h
      split at h
      · exact (s0_ev.trans s0c_bind).trans h
      · simp at h
theorem ok (k : Nat) : CtOK prog 66 (ct (f k)) := by
  refine ct_of_ev (E := E k) is (hE k) (segs_ok k) rfl ?_
  intro tvs blks res h
  simp only [ct] at h
  split at h
  · exact (ev.trans c_bind).trans h
  · simp at h
end transomref08_Unlike
namespace transomref09_Names
abbrev G : Type := (List D_api_Col) → Option ((List ByteArray))
def ct (g : G) : Ct where
  nin := 0
  mv := []
  F := fun tvs blks {β} K => match tvs, blks with
    | [.v (.one (.d (.sl (.pair .str (.pair (.int .i64) (.pair .bool (.pair (.pair (.int .i64) (.pair (.int .i64) (.pair (.int .u64) (.pair .str .unit)))) .unit))))) a0))], [] => (g a0).bind fun r => K ⟨.v (.one (.d (.sl .str) r)), []⟩
    | _, _ => none
  legit := fun _ _ K _ h => by split at h; exact (legit1 K h :); simp at h
abbrev S0 : Type := (List D_api_Col) → Int → (List ByteArray) → Option ((List ByteArray))
def sg0 (g : S0) : Seg where
  path := [4, 1, 0, 1, 1]
  prep := [.own 3 .str]
  keep := [0, 3, 4]
  F := fun tvs blks {β} K => match tvs, blks with
    | [.v (.one (.d (.sl (.pair .str (.pair (.int .i64) (.pair .bool (.pair (.pair (.int .i64) (.pair (.int .i64) (.pair (.int .u64) (.pair .str .unit)))) .unit))))) x0)), .v (.one (.own 0)), .v (.one (.d (.int .i64) x1))], [some (.own .str false x2)] => (g x0 x1 x2).bind fun r => K ⟨.v (.one (.d (.sl .str) r)), []⟩
    | _, _ => none
  legit := fun _ _ K _ h => by split at h; exact (legit1 K h :); simp at h
noncomputable def env  (s0 : S0) : FEnv := { P := prog, ct := fun m => none, N := 20, body := f67.body.getD .skip, rvs := [.tmp 2], rts := [95], nin := 0, rmv := [], segs := [sg0 s0] }
def c {β : Type}  (s0 : S0) (a0 : List D_api_Col) (ret : ((List ByteArray)) → Option β) : Option β := ((s0 a0 (0 : Int) []).bind ret)
def s0c {β : Type}  (s0 : S0) (x0 : List D_api_Col) (x1 : Int) (x2 : List ByteArray) (ret : ((List ByteArray)) → Option β) : Option β := (bif (decide (x1 < ((List.length x0) : Int))) then (bif ((decide ((0 : Int) ≤ x1)) && (decide (x1 < ((List.length x0) : Int)))) then (bif (decide ((((List.length x2) + (1 : Nat)) * (16 : Nat)) ≤ (35184372088832 : Nat))) then ((s0 x0 (IntKind.wrap IntKind.i64 (x1 + (1 : Int))) (x2 ++ [(elem T_api_Col x0 x1).1])).bind ret) else none) else none) else (ret (x2)))
theorem c_bind {β : Type}  {s0 : S0} {a0 : List D_api_Col} {ret : ((List ByteArray)) → Option β} : c  s0 a0 ret = (c  s0 a0 some).bind ret := by
  simp only [c, bif_bind, sum_bind, oa, os, on, ofs]
theorem s0c_bind {β : Type}  {s0 : S0} {x0 : List D_api_Col} {x1 : Int} {x2 : List ByteArray} {ret : ((List ByteArray)) → Option β} : s0c  s0 x0 x1 x2 ret = (s0c  s0 x0 x1 x2 some).bind ret := by
  simp only [s0c, bif_bind, sum_bind, oa, os, on, ofs]
theorem ev  {s0 : S0} {a0 : List D_api_Col} : evAt (env  s0) [] [0] [.v (.one (.d (.sl T_api_Col) a0))] [] some = c  s0 a0 (fun r => some ⟨.v (.one (.d (.sl .str) r)), []⟩) := by
  kernel_rfl
theorem s0_ev  {s0 : S0} {x0 : List D_api_Col} {x1 : Int} {x2 : List ByteArray} : evAt (env  s0) [4, 1, 0, 1, 1] [0, 3, 4] [.v (.one (.d (.sl T_api_Col) x0)), .v (.one (.own 0)), .v (.one (.d (.int .i64) x1))] [some (.own .str false x2)] some = s0c  s0 x0 x1 x2 (fun r => some ⟨.v (.one (.d (.sl .str) r)), []⟩) := by
  kernel_rfl
def s0 : Nat → (List D_api_Col) → Int → (List ByteArray) → Option ((List ByteArray))
  | 0, _, _, _ => none
  | k + 1, x0, x1, x2 => s0c  (s0 k) x0 x1 x2 some
def f (k : Nat) (a0 : List D_api_Col) : Option ((List ByteArray)) := c  (s0 k) a0 some
theorem is  {s0 : S0} : FnIs (env  s0) 67 f67 := ⟨func67, rfl, rfl, rfl, by decide⟩
theorem envok  {s0 : S0}  : EnvOK (env  s0).toEnv := by
  intro f c h
  simp only [env] at h
  simp at h
noncomputable abbrev E (k : Nat) : FEnv := env  (s0 k)
theorem hE (k : Nat) : EnvOK (E k).toEnv := envok 
theorem segs_ok : ∀ k, ∀ s ∈ (E k).segs, SegOK (E k) f67 s
  | 0 => by
    intro s hs
    simp only [E, env, List.mem_cons, List.not_mem_nil, or_false] at hs
    rcases hs with rfl
    · intro tvs blks res h; exfalso; simp only [sg0] at h; split at h <;> simp [s0] at h
  | k + 1 => by
    intro s hs
    simp only [E, env, List.mem_cons, List.not_mem_nil, or_false] at hs
    rcases hs with rfl
    · refine seg_of_ev (E := E k) (hE k) ⟨is.rvs⟩ (segs_ok k) ?_
      intro tvs blks res h
      simp only [sg0] at h
      split at h
      · exact (s0_ev.trans s0c_bind).trans h
      · simp at h
theorem ok (k : Nat) : CtOK prog 67 (ct (f k)) := by
  refine ct_of_ev (E := E k) is (hE k) (segs_ok k) rfl ?_
  intro tvs blks res h
  simp only [ct] at h
  split at h
  · exact (ev.trans c_bind).trans h
  · simp at h
end transomref09_Names
namespace transomref09_Check
abbrev G : Type := ByteArray → Int → (List D_api_Col) → Option Int
def ct (g : G) : Ct where
  nin := 0
  mv := []
  F := fun tvs blks {β} K => match tvs, blks with
    | [.v (.agg [(.d .str a0), (.d (.int .i64) a1), (.d (.sl (.pair .str (.pair (.int .i64) (.pair .bool (.pair (.pair (.int .i64) (.pair (.int .i64) (.pair (.int .u64) (.pair .str .unit)))) .unit))))) a2)])], [] => (g a0 a1 a2).bind fun r => K ⟨.v (.one (.d (.int .i64) r)), []⟩
    | _, _ => none
  legit := fun _ _ K _ h => by split at h; exact (legit1 K h :); simp at h
abbrev S0 : Type := Bool → ByteArray → Int → (List D_api_Col) → Option Int
abbrev S1 : Type := ByteArray → Int → (List D_api_Col) → Option Int
abbrev S2 : Type := Bool → ByteArray → Int → (List D_api_Col) → Option Int
abbrev S3 : Type := ByteArray → Int → (List D_api_Col) → Option Int
abbrev S4 : Type := Int → ByteArray → Int → (List D_api_Col) → Option Int
abbrev S5 : Type := Int → ByteArray → Int → (List D_api_Col) → Option Int
def sg0 (g : S0) : Seg where
  path := [1, 0, 1, 1]
  prep := []
  keep := [1, 22]
  F := fun tvs blks {β} K => match tvs, blks with
    | [.v (.one (.ptr 0 0)), .v (.one (.d .bool x0))], [some (.box [(.d .str x1), (.d (.int .i64) x2), (.d (.sl (.pair .str (.pair (.int .i64) (.pair .bool (.pair (.pair (.int .i64) (.pair (.int .i64) (.pair (.int .u64) (.pair .str .unit)))) .unit))))) x3)])] => (g x0 x1 x2 x3).bind fun r => K ⟨.v (.one (.d (.int .i64) r)), []⟩
    | _, _ => none
  legit := fun _ _ K _ h => by split at h; exact (legit1 K h :); simp at h
def sg1 (g : S1) : Seg where
  path := [1, 1, 1]
  prep := []
  keep := [1]
  F := fun tvs blks {β} K => match tvs, blks with
    | [.v (.one (.ptr 0 0))], [some (.box [(.d .str x0), (.d (.int .i64) x1), (.d (.sl (.pair .str (.pair (.int .i64) (.pair .bool (.pair (.pair (.int .i64) (.pair (.int .i64) (.pair (.int .u64) (.pair .str .unit)))) .unit))))) x2)])] => (g x0 x1 x2).bind fun r => K ⟨.v (.one (.d (.int .i64) r)), []⟩
    | _, _ => none
  legit := fun _ _ K _ h => by split at h; exact (legit1 K h :); simp at h
def sg2 (g : S2) : Seg where
  path := [1, 0, 1, 1, 1]
  prep := []
  keep := [1, 38]
  F := fun tvs blks {β} K => match tvs, blks with
    | [.v (.one (.ptr 0 0)), .v (.one (.d .bool x0))], [some (.box [(.d .str x1), (.d (.int .i64) x2), (.d (.sl (.pair .str (.pair (.int .i64) (.pair .bool (.pair (.pair (.int .i64) (.pair (.int .i64) (.pair (.int .u64) (.pair .str .unit)))) .unit))))) x3)])] => (g x0 x1 x2 x3).bind fun r => K ⟨.v (.one (.d (.int .i64) r)), []⟩
    | _, _ => none
  legit := fun _ _ K _ h => by split at h; exact (legit1 K h :); simp at h
def sg3 (g : S3) : Seg where
  path := [1, 1, 1, 1]
  prep := []
  keep := [1]
  F := fun tvs blks {β} K => match tvs, blks with
    | [.v (.one (.ptr 0 0))], [some (.box [(.d .str x0), (.d (.int .i64) x1), (.d (.sl (.pair .str (.pair (.int .i64) (.pair .bool (.pair (.pair (.int .i64) (.pair (.int .i64) (.pair (.int .u64) (.pair .str .unit)))) .unit))))) x2)])] => (g x0 x1 x2).bind fun r => K ⟨.v (.one (.d (.int .i64) r)), []⟩
    | _, _ => none
  legit := fun _ _ K _ h => by split at h; exact (legit1 K h :); simp at h
def sg4 (g : S4) : Seg where
  path := [4, 1, 0, 1, 1, 1, 1]
  prep := []
  keep := [1, 4]
  F := fun tvs blks {β} K => match tvs, blks with
    | [.v (.one (.ptr 0 0)), .v (.one (.d (.int .i64) x0))], [some (.box [(.d .str x1), (.d (.int .i64) x2), (.d (.sl (.pair .str (.pair (.int .i64) (.pair .bool (.pair (.pair (.int .i64) (.pair (.int .i64) (.pair (.int .u64) (.pair .str .unit)))) .unit))))) x3)])] => (g x0 x1 x2 x3).bind fun r => K ⟨.v (.one (.d (.int .i64) r)), []⟩
    | _, _ => none
  legit := fun _ _ K _ h => by split at h; exact (legit1 K h :); simp at h
def sg5 (g : S5) : Seg where
  path := [4, 1, 0, 1, 1, 1, 1, 1, 1]
  prep := []
  keep := [1, 6]
  F := fun tvs blks {β} K => match tvs, blks with
    | [.v (.one (.ptr 0 0)), .v (.one (.d (.int .i64) x0))], [some (.box [(.d .str x1), (.d (.int .i64) x2), (.d (.sl (.pair .str (.pair (.int .i64) (.pair .bool (.pair (.pair (.int .i64) (.pair (.int .i64) (.pair (.int .u64) (.pair .str .unit)))) .unit))))) x3)])] => (g x0 x1 x2 x3).bind fun r => K ⟨.v (.one (.d (.int .i64) r)), []⟩
    | _, _ => none
  legit := fun _ _ K _ h => by split at h; exact (legit1 K h :); simp at h
noncomputable def env (g64 : transomref08_Check.G) (g65 : transomref09_CheckCol.G) (g66 : transomref08_Unlike.G) (g67 : transomref09_Names.G) (s0 : S0) (s1 : S1) (s2 : S2) (s3 : S3) (s4 : S4) (s5 : S5) : FEnv := { P := prog, ct := fun m => if m = 64 then some (transomref08_Check.ct g64) else if m = 65 then some (transomref09_CheckCol.ct g65) else if m = 66 then some (transomref08_Unlike.ct g66) else if m = 67 then some (transomref09_Names.ct g67) else none, N := 72, body := f45.body.getD .skip, rvs := [.tmp 2], rts := [3], nin := 0, rmv := [], segs := [sg0 s0, sg1 s1, sg2 s2, sg3 s3, sg4 s4, sg5 s5] }
def c {β : Type} (g64 : transomref08_Check.G) (g65 : transomref09_CheckCol.G) (g66 : transomref08_Unlike.G) (g67 : transomref09_Names.G) (s0 : S0) (s1 : S1) (s2 : S2) (s3 : S3) (s4 : S4) (s5 : S5) (a0 : ByteArray) (a1 : Int) (a2 : List D_api_Col) (ret : Int → Option β) : Option β := ((g64 a0).bind fun r0 => (bif (r0 != (0 : Int)) then (ret (r0)) else (bif (decide (((List.length a2) : Int) < (1 : Int))) then ((s0 true a0 a1 a2).bind ret) else ((s0 (decide (((List.length a2) : Int) > (8 : Int))) a0 a1 a2).bind ret))))
def s0c {β : Type} (g64 : transomref08_Check.G) (g65 : transomref09_CheckCol.G) (g66 : transomref08_Unlike.G) (g67 : transomref09_Names.G) (s0 : S0) (s1 : S1) (s2 : S2) (s3 : S3) (s4 : S4) (s5 : S5) (x0 : Bool) (x1 : ByteArray) (x2 : Int) (x3 : List D_api_Col) (ret : Int → Option β) : Option β := (bif x0 then (ret ((2 : Int))) else ((s1 x1 x2 x3).bind ret))
def s1c {β : Type} (g64 : transomref08_Check.G) (g65 : transomref09_CheckCol.G) (g66 : transomref08_Unlike.G) (g67 : transomref09_Names.G) (s0 : S0) (s1 : S1) (s2 : S2) (s3 : S3) (s4 : S4) (s5 : S5) (x0 : ByteArray) (x1 : Int) (x2 : List D_api_Col) (ret : Int → Option β) : Option β := (bif (decide (x1 < (1 : Int))) then ((s2 true x0 x1 x2).bind ret) else (bif (decide (x1 > (3 : Int))) then ((s2 true x0 x1 x2).bind ret) else ((s2 (decide (x1 > ((List.length x2) : Int))) x0 x1 x2).bind ret)))
def s2c {β : Type} (g64 : transomref08_Check.G) (g65 : transomref09_CheckCol.G) (g66 : transomref08_Unlike.G) (g67 : transomref09_Names.G) (s0 : S0) (s1 : S1) (s2 : S2) (s3 : S3) (s4 : S4) (s5 : S5) (x0 : Bool) (x1 : ByteArray) (x2 : Int) (x3 : List D_api_Col) (ret : Int → Option β) : Option β := (bif x0 then (ret ((1 : Int))) else ((s3 x1 x2 x3).bind ret))
def s3c {β : Type} (g64 : transomref08_Check.G) (g65 : transomref09_CheckCol.G) (g66 : transomref08_Unlike.G) (g67 : transomref09_Names.G) (s0 : S0) (s1 : S1) (s2 : S2) (s3 : S3) (s4 : S4) (s5 : S5) (x0 : ByteArray) (x1 : Int) (x2 : List D_api_Col) (ret : Int → Option β) : Option β := ((s4 (0 : Int) x0 x1 x2).bind ret)
def s4c {β : Type} (g64 : transomref08_Check.G) (g65 : transomref09_CheckCol.G) (g66 : transomref08_Unlike.G) (g67 : transomref09_Names.G) (s0 : S0) (s1 : S1) (s2 : S2) (s3 : S3) (s4 : S4) (s5 : S5) (x0 : Int) (x1 : ByteArray) (x2 : Int) (x3 : List D_api_Col) (ret : Int → Option β) : Option β := (bif (decide (x0 < ((List.length x3) : Int))) then (bif ((decide ((0 : Int) ≤ x0)) && (decide (x0 < ((List.length x3) : Int)))) then ((g65 (elem T_api_Col x3 x0).1 (elem T_api_Col x3 x0).2.1 (elem T_api_Col x3 x0).2.2.1 (elem T_api_Col x3 x0).2.2.2.1.1 (elem T_api_Col x3 x0).2.2.2.1.2.1 (elem T_api_Col x3 x0).2.2.2.1.2.2.1 (elem T_api_Col x3 x0).2.2.2.1.2.2.2.1).bind fun r0 => (bif (r0 != (0 : Int)) then (ret (r0)) else ((s4 (IntKind.wrap IntKind.i64 (x0 + (1 : Int))) x1 x2 x3).bind ret))) else none) else ((g67 x3).bind fun r1 => ((g66 r1).bind fun r2 => (bif (!r2) then (ret ((12 : Int))) else ((s5 (0 : Int) x1 x2 x3).bind ret)))))
def s5c {β : Type} (g64 : transomref08_Check.G) (g65 : transomref09_CheckCol.G) (g66 : transomref08_Unlike.G) (g67 : transomref09_Names.G) (s0 : S0) (s1 : S1) (s2 : S2) (s3 : S3) (s4 : S4) (s5 : S5) (x0 : Int) (x1 : ByteArray) (x2 : Int) (x3 : List D_api_Col) (ret : Int → Option β) : Option β := (bif (decide (x0 < x2)) then (bif ((decide ((0 : Int) ≤ x0)) && (decide (x0 < ((List.length x3) : Int)))) then (bif (elem T_api_Col x3 x0).2.2.1 then (ret ((11 : Int))) else ((s5 (IntKind.wrap IntKind.i64 (x0 + (1 : Int))) x1 x2 x3).bind ret)) else none) else (ret ((0 : Int))))
theorem c_bind {β : Type} {g64 : transomref08_Check.G} {g65 : transomref09_CheckCol.G} {g66 : transomref08_Unlike.G} {g67 : transomref09_Names.G} {s0 : S0} {s1 : S1} {s2 : S2} {s3 : S3} {s4 : S4} {s5 : S5} {a0 : ByteArray} {a1 : Int} {a2 : List D_api_Col} {ret : Int → Option β} : c g64 g65 g66 g67 s0 s1 s2 s3 s4 s5 a0 a1 a2 ret = (c g64 g65 g66 g67 s0 s1 s2 s3 s4 s5 a0 a1 a2 some).bind ret := by
  simp only [c, bif_bind, sum_bind, oa, os, on, ofs]
theorem s0c_bind {β : Type} {g64 : transomref08_Check.G} {g65 : transomref09_CheckCol.G} {g66 : transomref08_Unlike.G} {g67 : transomref09_Names.G} {s0 : S0} {s1 : S1} {s2 : S2} {s3 : S3} {s4 : S4} {s5 : S5} {x0 : Bool} {x1 : ByteArray} {x2 : Int} {x3 : List D_api_Col} {ret : Int → Option β} : s0c g64 g65 g66 g67 s0 s1 s2 s3 s4 s5 x0 x1 x2 x3 ret = (s0c g64 g65 g66 g67 s0 s1 s2 s3 s4 s5 x0 x1 x2 x3 some).bind ret := by
  simp only [s0c, bif_bind, sum_bind, oa, os, on, ofs]
theorem s1c_bind {β : Type} {g64 : transomref08_Check.G} {g65 : transomref09_CheckCol.G} {g66 : transomref08_Unlike.G} {g67 : transomref09_Names.G} {s0 : S0} {s1 : S1} {s2 : S2} {s3 : S3} {s4 : S4} {s5 : S5} {x0 : ByteArray} {x1 : Int} {x2 : List D_api_Col} {ret : Int → Option β} : s1c g64 g65 g66 g67 s0 s1 s2 s3 s4 s5 x0 x1 x2 ret = (s1c g64 g65 g66 g67 s0 s1 s2 s3 s4 s5 x0 x1 x2 some).bind ret := by
  simp only [s1c, bif_bind, sum_bind, oa, os, on, ofs]
theorem s2c_bind {β : Type} {g64 : transomref08_Check.G} {g65 : transomref09_CheckCol.G} {g66 : transomref08_Unlike.G} {g67 : transomref09_Names.G} {s0 : S0} {s1 : S1} {s2 : S2} {s3 : S3} {s4 : S4} {s5 : S5} {x0 : Bool} {x1 : ByteArray} {x2 : Int} {x3 : List D_api_Col} {ret : Int → Option β} : s2c g64 g65 g66 g67 s0 s1 s2 s3 s4 s5 x0 x1 x2 x3 ret = (s2c g64 g65 g66 g67 s0 s1 s2 s3 s4 s5 x0 x1 x2 x3 some).bind ret := by
  simp only [s2c, bif_bind, sum_bind, oa, os, on, ofs]
theorem s3c_bind {β : Type} {g64 : transomref08_Check.G} {g65 : transomref09_CheckCol.G} {g66 : transomref08_Unlike.G} {g67 : transomref09_Names.G} {s0 : S0} {s1 : S1} {s2 : S2} {s3 : S3} {s4 : S4} {s5 : S5} {x0 : ByteArray} {x1 : Int} {x2 : List D_api_Col} {ret : Int → Option β} : s3c g64 g65 g66 g67 s0 s1 s2 s3 s4 s5 x0 x1 x2 ret = (s3c g64 g65 g66 g67 s0 s1 s2 s3 s4 s5 x0 x1 x2 some).bind ret := by
  simp only [s3c, bif_bind, sum_bind, oa, os, on, ofs]
theorem s4c_bind {β : Type} {g64 : transomref08_Check.G} {g65 : transomref09_CheckCol.G} {g66 : transomref08_Unlike.G} {g67 : transomref09_Names.G} {s0 : S0} {s1 : S1} {s2 : S2} {s3 : S3} {s4 : S4} {s5 : S5} {x0 : Int} {x1 : ByteArray} {x2 : Int} {x3 : List D_api_Col} {ret : Int → Option β} : s4c g64 g65 g66 g67 s0 s1 s2 s3 s4 s5 x0 x1 x2 x3 ret = (s4c g64 g65 g66 g67 s0 s1 s2 s3 s4 s5 x0 x1 x2 x3 some).bind ret := by
  simp only [s4c, bif_bind, sum_bind, oa, os, on, ofs]
theorem s5c_bind {β : Type} {g64 : transomref08_Check.G} {g65 : transomref09_CheckCol.G} {g66 : transomref08_Unlike.G} {g67 : transomref09_Names.G} {s0 : S0} {s1 : S1} {s2 : S2} {s3 : S3} {s4 : S4} {s5 : S5} {x0 : Int} {x1 : ByteArray} {x2 : Int} {x3 : List D_api_Col} {ret : Int → Option β} : s5c g64 g65 g66 g67 s0 s1 s2 s3 s4 s5 x0 x1 x2 x3 ret = (s5c g64 g65 g66 g67 s0 s1 s2 s3 s4 s5 x0 x1 x2 x3 some).bind ret := by
  simp only [s5c, bif_bind, sum_bind, oa, os, on, ofs]
theorem ev {g64 : transomref08_Check.G} {g65 : transomref09_CheckCol.G} {g66 : transomref08_Unlike.G} {g67 : transomref09_Names.G} {s0 : S0} {s1 : S1} {s2 : S2} {s3 : S3} {s4 : S4} {s5 : S5} {a0 : ByteArray} {a1 : Int} {a2 : List D_api_Col} : evAt (env g64 g65 g66 g67 s0 s1 s2 s3 s4 s5) [] [0] [.v (.agg [(.d .str a0), (.d (.int .i64) a1), (.d (.sl T_api_Col) a2)])] [] some = c g64 g65 g66 g67 s0 s1 s2 s3 s4 s5 a0 a1 a2 (fun r => some ⟨.v (.one (.d (.int .i64) r)), []⟩) := by
  kernel_rfl
theorem s0_ev {g64 : transomref08_Check.G} {g65 : transomref09_CheckCol.G} {g66 : transomref08_Unlike.G} {g67 : transomref09_Names.G} {s0 : S0} {s1 : S1} {s2 : S2} {s3 : S3} {s4 : S4} {s5 : S5} {x0 : Bool} {x1 : ByteArray} {x2 : Int} {x3 : List D_api_Col} : evAt (env g64 g65 g66 g67 s0 s1 s2 s3 s4 s5) [1, 0, 1, 1] [1, 22] [.v (.one (.ptr 0 0)), .v (.one (.d .bool x0))] [some (.box [(.d .str x1), (.d (.int .i64) x2), (.d (.sl T_api_Col) x3)])] some = s0c g64 g65 g66 g67 s0 s1 s2 s3 s4 s5 x0 x1 x2 x3 (fun r => some ⟨.v (.one (.d (.int .i64) r)), []⟩) := by
  kernel_rfl
theorem s1_ev {g64 : transomref08_Check.G} {g65 : transomref09_CheckCol.G} {g66 : transomref08_Unlike.G} {g67 : transomref09_Names.G} {s0 : S0} {s1 : S1} {s2 : S2} {s3 : S3} {s4 : S4} {s5 : S5} {x0 : ByteArray} {x1 : Int} {x2 : List D_api_Col} : evAt (env g64 g65 g66 g67 s0 s1 s2 s3 s4 s5) [1, 1, 1] [1] [.v (.one (.ptr 0 0))] [some (.box [(.d .str x0), (.d (.int .i64) x1), (.d (.sl T_api_Col) x2)])] some = s1c g64 g65 g66 g67 s0 s1 s2 s3 s4 s5 x0 x1 x2 (fun r => some ⟨.v (.one (.d (.int .i64) r)), []⟩) := by
  kernel_rfl
theorem s2_ev {g64 : transomref08_Check.G} {g65 : transomref09_CheckCol.G} {g66 : transomref08_Unlike.G} {g67 : transomref09_Names.G} {s0 : S0} {s1 : S1} {s2 : S2} {s3 : S3} {s4 : S4} {s5 : S5} {x0 : Bool} {x1 : ByteArray} {x2 : Int} {x3 : List D_api_Col} : evAt (env g64 g65 g66 g67 s0 s1 s2 s3 s4 s5) [1, 0, 1, 1, 1] [1, 38] [.v (.one (.ptr 0 0)), .v (.one (.d .bool x0))] [some (.box [(.d .str x1), (.d (.int .i64) x2), (.d (.sl T_api_Col) x3)])] some = s2c g64 g65 g66 g67 s0 s1 s2 s3 s4 s5 x0 x1 x2 x3 (fun r => some ⟨.v (.one (.d (.int .i64) r)), []⟩) := by
  kernel_rfl
theorem s3_ev {g64 : transomref08_Check.G} {g65 : transomref09_CheckCol.G} {g66 : transomref08_Unlike.G} {g67 : transomref09_Names.G} {s0 : S0} {s1 : S1} {s2 : S2} {s3 : S3} {s4 : S4} {s5 : S5} {x0 : ByteArray} {x1 : Int} {x2 : List D_api_Col} : evAt (env g64 g65 g66 g67 s0 s1 s2 s3 s4 s5) [1, 1, 1, 1] [1] [.v (.one (.ptr 0 0))] [some (.box [(.d .str x0), (.d (.int .i64) x1), (.d (.sl T_api_Col) x2)])] some = s3c g64 g65 g66 g67 s0 s1 s2 s3 s4 s5 x0 x1 x2 (fun r => some ⟨.v (.one (.d (.int .i64) r)), []⟩) := by
  kernel_rfl
theorem s4_ev {g64 : transomref08_Check.G} {g65 : transomref09_CheckCol.G} {g66 : transomref08_Unlike.G} {g67 : transomref09_Names.G} {s0 : S0} {s1 : S1} {s2 : S2} {s3 : S3} {s4 : S4} {s5 : S5} {x0 : Int} {x1 : ByteArray} {x2 : Int} {x3 : List D_api_Col} : evAt (env g64 g65 g66 g67 s0 s1 s2 s3 s4 s5) [4, 1, 0, 1, 1, 1, 1] [1, 4] [.v (.one (.ptr 0 0)), .v (.one (.d (.int .i64) x0))] [some (.box [(.d .str x1), (.d (.int .i64) x2), (.d (.sl T_api_Col) x3)])] some = s4c g64 g65 g66 g67 s0 s1 s2 s3 s4 s5 x0 x1 x2 x3 (fun r => some ⟨.v (.one (.d (.int .i64) r)), []⟩) := by
  kernel_rfl
theorem s5_ev {g64 : transomref08_Check.G} {g65 : transomref09_CheckCol.G} {g66 : transomref08_Unlike.G} {g67 : transomref09_Names.G} {s0 : S0} {s1 : S1} {s2 : S2} {s3 : S3} {s4 : S4} {s5 : S5} {x0 : Int} {x1 : ByteArray} {x2 : Int} {x3 : List D_api_Col} : evAt (env g64 g65 g66 g67 s0 s1 s2 s3 s4 s5) [4, 1, 0, 1, 1, 1, 1, 1, 1] [1, 6] [.v (.one (.ptr 0 0)), .v (.one (.d (.int .i64) x0))] [some (.box [(.d .str x1), (.d (.int .i64) x2), (.d (.sl T_api_Col) x3)])] some = s5c g64 g65 g66 g67 s0 s1 s2 s3 s4 s5 x0 x1 x2 x3 (fun r => some ⟨.v (.one (.d (.int .i64) r)), []⟩) := by
  kernel_rfl
mutual
def s0 : Nat → Bool → ByteArray → Int → (List D_api_Col) → Option Int
  | 0, _, _, _, _ => none
  | k + 1, x0, x1, x2, x3 => s0c (transomref08_Check.f k) (transomref09_CheckCol.f k) (transomref08_Unlike.f k) (transomref09_Names.f k) (s0 k) (s1 k) (s2 k) (s3 k) (s4 k) (s5 k) x0 x1 x2 x3 some
def s1 : Nat → ByteArray → Int → (List D_api_Col) → Option Int
  | 0, _, _, _ => none
  | k + 1, x0, x1, x2 => s1c (transomref08_Check.f k) (transomref09_CheckCol.f k) (transomref08_Unlike.f k) (transomref09_Names.f k) (s0 k) (s1 k) (s2 k) (s3 k) (s4 k) (s5 k) x0 x1 x2 some
def s2 : Nat → Bool → ByteArray → Int → (List D_api_Col) → Option Int
  | 0, _, _, _, _ => none
  | k + 1, x0, x1, x2, x3 => s2c (transomref08_Check.f k) (transomref09_CheckCol.f k) (transomref08_Unlike.f k) (transomref09_Names.f k) (s0 k) (s1 k) (s2 k) (s3 k) (s4 k) (s5 k) x0 x1 x2 x3 some
def s3 : Nat → ByteArray → Int → (List D_api_Col) → Option Int
  | 0, _, _, _ => none
  | k + 1, x0, x1, x2 => s3c (transomref08_Check.f k) (transomref09_CheckCol.f k) (transomref08_Unlike.f k) (transomref09_Names.f k) (s0 k) (s1 k) (s2 k) (s3 k) (s4 k) (s5 k) x0 x1 x2 some
def s4 : Nat → Int → ByteArray → Int → (List D_api_Col) → Option Int
  | 0, _, _, _, _ => none
  | k + 1, x0, x1, x2, x3 => s4c (transomref08_Check.f k) (transomref09_CheckCol.f k) (transomref08_Unlike.f k) (transomref09_Names.f k) (s0 k) (s1 k) (s2 k) (s3 k) (s4 k) (s5 k) x0 x1 x2 x3 some
def s5 : Nat → Int → ByteArray → Int → (List D_api_Col) → Option Int
  | 0, _, _, _, _ => none
  | k + 1, x0, x1, x2, x3 => s5c (transomref08_Check.f k) (transomref09_CheckCol.f k) (transomref08_Unlike.f k) (transomref09_Names.f k) (s0 k) (s1 k) (s2 k) (s3 k) (s4 k) (s5 k) x0 x1 x2 x3 some
end
def f (k : Nat) (a0 : ByteArray) (a1 : Int) (a2 : List D_api_Col) : Option Int := c (transomref08_Check.f k) (transomref09_CheckCol.f k) (transomref08_Unlike.f k) (transomref09_Names.f k) (s0 k) (s1 k) (s2 k) (s3 k) (s4 k) (s5 k) a0 a1 a2 some
theorem is {g64 : transomref08_Check.G} {g65 : transomref09_CheckCol.G} {g66 : transomref08_Unlike.G} {g67 : transomref09_Names.G} {s0 : S0} {s1 : S1} {s2 : S2} {s3 : S3} {s4 : S4} {s5 : S5} : FnIs (env g64 g65 g66 g67 s0 s1 s2 s3 s4 s5) 45 f45 := ⟨func45, rfl, rfl, rfl, by decide⟩
theorem envok {g64 : transomref08_Check.G} {g65 : transomref09_CheckCol.G} {g66 : transomref08_Unlike.G} {g67 : transomref09_Names.G} {s0 : S0} {s1 : S1} {s2 : S2} {s3 : S3} {s4 : S4} {s5 : S5} (h64 : CtOK prog 64 (transomref08_Check.ct g64)) (h65 : CtOK prog 65 (transomref09_CheckCol.ct g65)) (h66 : CtOK prog 66 (transomref08_Unlike.ct g66)) (h67 : CtOK prog 67 (transomref09_Names.ct g67)) : EnvOK (env g64 g65 g66 g67 s0 s1 s2 s3 s4 s5).toEnv := by
  intro f c h
  simp only [env] at h
  split at h
  · rename_i e; subst e; cases h; exact h64
  split at h
  · rename_i e; subst e; cases h; exact h65
  split at h
  · rename_i e; subst e; cases h; exact h66
  split at h
  · rename_i e; subst e; cases h; exact h67
  simp at h
noncomputable abbrev E (k : Nat) : FEnv := env (transomref08_Check.f k) (transomref09_CheckCol.f k) (transomref08_Unlike.f k) (transomref09_Names.f k) (s0 k) (s1 k) (s2 k) (s3 k) (s4 k) (s5 k)
theorem hE (k : Nat) : EnvOK (E k).toEnv := envok (transomref08_Check.ok k) (transomref09_CheckCol.ok k) (transomref08_Unlike.ok k) (transomref09_Names.ok k)
theorem segs_ok : ∀ k, ∀ s ∈ (E k).segs, SegOK (E k) f45 s
  | 0 => by
    intro s hs
    simp only [E, env, List.mem_cons, List.not_mem_nil, or_false] at hs
    rcases hs with rfl | rfl | rfl | rfl | rfl | rfl
    · intro tvs blks res h; exfalso; simp only [sg0] at h; split at h <;> simp [s0] at h
    · intro tvs blks res h; exfalso; simp only [sg1] at h; split at h <;> simp [s1] at h
    · intro tvs blks res h; exfalso; simp only [sg2] at h; split at h <;> simp [s2] at h
    · intro tvs blks res h; exfalso; simp only [sg3] at h; split at h <;> simp [s3] at h
    · intro tvs blks res h; exfalso; simp only [sg4] at h; split at h <;> simp [s4] at h
    · intro tvs blks res h; exfalso; simp only [sg5] at h; split at h <;> simp [s5] at h
  | k + 1 => by
    intro s hs
    simp only [E, env, List.mem_cons, List.not_mem_nil, or_false] at hs
    rcases hs with rfl | rfl | rfl | rfl | rfl | rfl
    · refine seg_of_ev (E := E k) (hE k) ⟨is.rvs⟩ (segs_ok k) ?_
      intro tvs blks res h
      simp only [sg0] at h
      split at h
      · exact (s0_ev.trans s0c_bind).trans h
      · simp at h
    · refine seg_of_ev (E := E k) (hE k) ⟨is.rvs⟩ (segs_ok k) ?_
      intro tvs blks res h
      simp only [sg1] at h
      split at h
      · exact (s1_ev.trans s1c_bind).trans h
      · simp at h
    · refine seg_of_ev (E := E k) (hE k) ⟨is.rvs⟩ (segs_ok k) ?_
      intro tvs blks res h
      simp only [sg2] at h
      split at h
      · exact (s2_ev.trans s2c_bind).trans h
      · simp at h
    · refine seg_of_ev (E := E k) (hE k) ⟨is.rvs⟩ (segs_ok k) ?_
      intro tvs blks res h
      simp only [sg3] at h
      split at h
      · exact (s3_ev.trans s3c_bind).trans h
      · simp at h
    · refine seg_of_ev (E := E k) (hE k) ⟨is.rvs⟩ (segs_ok k) ?_
      intro tvs blks res h
      simp only [sg4] at h
      split at h
      · exact (s4_ev.trans s4c_bind).trans h
      · simp at h
    · refine seg_of_ev (E := E k) (hE k) ⟨is.rvs⟩ (segs_ok k) ?_
      intro tvs blks res h
      simp only [sg5] at h
      split at h
      · exact (s5_ev.trans s5c_bind).trans h
      · simp at h
theorem ok (k : Nat) : CtOK prog 45 (ct (f k)) := by
  refine ct_of_ev (E := E k) is (hE k) (segs_ok k) rfl ?_
  intro tvs blks res h
  simp only [ct] at h
  split at h
  · exact (ev.trans c_bind).trans h
  · simp at h
end transomref09_Check
end Go.Proofs.YtdbbkmmillnaiaaGreatDoor.Aev
