/- By a program of this session (AEV): functions of the program as plain functions, and that the machine does what they say. -/
import Derived.Test.YtdbbkmmillnaiaaGreatDoorTys
import Derived.Test.YtdbbkmmillnaiaaGreatDoorProg
import Derived.Laws.Externs
import Derived.Lib.Bytealg
namespace Go.Proofs.YtdbbkmmillnaiaaGreatDoor.Aev
set_option linter.unusedVariables false
set_option linter.unusedSimpArgs false
set_option maxRecDepth 100000
set_option maxHeartbeats 4000000
open Go Go.Proofs.Tryz
namespace transomlaw04_Few
abbrev G : Type := Int → Int → Int → ByteArray → Option Int
def ct (g : G) : Ct where
  nin := 0
  mv := []
  F := fun tvs blks {β} K => match tvs, blks with
    | [.v (.agg [(.d (.int .i64) a0), (.d (.int .i64) a1), (.d (.int .u64) a2), (.d .str a3)])], [] => (g a0 a1 a2 a3).bind fun r => K ⟨.v (.one (.d (.int .i64) r)), []⟩
    | _, _ => none
  legit := fun _ _ K _ h => by split at h; exact (legit1 K h :); simp at h
noncomputable def env   : FEnv := { P := prog, ct := fun m => none, N := 7, body := f16.body.getD .skip, rvs := [.tmp 2], rts := [3], nin := 0, rmv := [], segs := [] }
def c {β : Type}   (a0 : Int) (a1 : Int) (a2 : Int) (a3 : ByteArray) (ret : Int → Option β) : Option β := (bif (decide (((ByteArray.size a3) : Int) > (2000 : Int))) then (ret ((0 : Int))) else (ret ((1 : Int))))
theorem c_bind {β : Type}   {a0 : Int} {a1 : Int} {a2 : Int} {a3 : ByteArray} {ret : Int → Option β} : c   a0 a1 a2 a3 ret = (c   a0 a1 a2 a3 some).bind ret := by
  simp only [c, bif_bind, sum_bind, oa, os, on, ofs]
theorem ev   {a0 : Int} {a1 : Int} {a2 : Int} {a3 : ByteArray} : evAt (env  ) [] [0] [.v (.agg [(.d (.int .i64) a0), (.d (.int .i64) a1), (.d (.int .u64) a2), (.d .str a3)])] [] some = c   a0 a1 a2 a3 (fun r => some ⟨.v (.one (.d (.int .i64) r)), []⟩) := by
  kernel_rfl
def f (k : Nat) (a0 : Int) (a1 : Int) (a2 : Int) (a3 : ByteArray) : Option Int := c   a0 a1 a2 a3 some
theorem is   : FnIs (env  ) 16 f16 := ⟨func16, rfl, rfl, rfl, by decide⟩
theorem envok    : EnvOK (env  ).toEnv := by
  intro f c h
  simp only [env] at h
  simp at h
noncomputable abbrev E (k : Nat) : FEnv := env  
theorem hE (k : Nat) : EnvOK (E k).toEnv := envok 
theorem ok (k : Nat) : CtOK prog 16 (ct (f k)) := by
  refine ct_of_ev (E := E k) is (hE k) (fun s hs => by simp [E, env] at hs) rfl ?_
  intro tvs blks res h
  simp only [ct] at h
  split at h
  · exact (ev.trans c_bind).trans h
  · simp at h
end transomlaw04_Few
namespace transomlaw05_Few
abbrev G : Type := (List D_api_Value) → Option Int
def ct (g : G) : Ct where
  nin := 0
  mv := []
  F := fun tvs blks {β} K => match tvs, blks with
    | [.v (.one (.d (.sl (.pair (.int .i64) (.pair (.int .i64) (.pair (.int .u64) (.pair .str .unit))))) a0))], [] => (g a0).bind fun r => K ⟨.v (.one (.d (.int .i64) r)), []⟩
    | _, _ => none
  legit := fun _ _ K _ h => by split at h; exact (legit1 K h :); simp at h
abbrev S0 : Type := (List D_api_Value) → Int → Option Int
def sg0 (g : S0) : Seg where
  path := [4, 1, 0, 1, 1]
  prep := []
  keep := [0, 3]
  F := fun tvs blks {β} K => match tvs, blks with
    | [.v (.one (.d (.sl (.pair (.int .i64) (.pair (.int .i64) (.pair (.int .u64) (.pair .str .unit))))) x0)), .v (.one (.d (.int .i64) x1))], [] => (g x0 x1).bind fun r => K ⟨.v (.one (.d (.int .i64) r)), []⟩
    | _, _ => none
  legit := fun _ _ K _ h => by split at h; exact (legit1 K h :); simp at h
noncomputable def env (g16 : transomlaw04_Few.G) (s0 : S0) : FEnv := { P := prog, ct := fun m => if m = 16 then some (transomlaw04_Few.ct g16) else none, N := 19, body := f6.body.getD .skip, rvs := [.tmp 2], rts := [3], nin := 0, rmv := [], segs := [sg0 s0] }
def c {β : Type} (g16 : transomlaw04_Few.G) (s0 : S0) (a0 : List D_api_Value) (ret : Int → Option β) : Option β := (bif (decide (((List.length a0) : Int) > (30 : Int))) then (ret ((0 : Int))) else ((s0 a0 (0 : Int)).bind ret))
def s0c {β : Type} (g16 : transomlaw04_Few.G) (s0 : S0) (x0 : List D_api_Value) (x1 : Int) (ret : Int → Option β) : Option β := (bif (decide (x1 < ((List.length x0) : Int))) then (bif ((decide ((0 : Int) ≤ x1)) && (decide (x1 < ((List.length x0) : Int)))) then ((g16 (elem T_api_Value x0 x1).1 (elem T_api_Value x0 x1).2.1 (elem T_api_Value x0 x1).2.2.1 (elem T_api_Value x0 x1).2.2.2.1).bind fun r0 => (bif (r0 == (0 : Int)) then (ret ((0 : Int))) else ((s0 x0 (IntKind.wrap IntKind.i64 (x1 + (1 : Int)))).bind ret))) else none) else (ret ((1 : Int))))
theorem c_bind {β : Type} {g16 : transomlaw04_Few.G} {s0 : S0} {a0 : List D_api_Value} {ret : Int → Option β} : c g16 s0 a0 ret = (c g16 s0 a0 some).bind ret := by
  simp only [c, bif_bind, sum_bind, oa, os, on, ofs]
theorem s0c_bind {β : Type} {g16 : transomlaw04_Few.G} {s0 : S0} {x0 : List D_api_Value} {x1 : Int} {ret : Int → Option β} : s0c g16 s0 x0 x1 ret = (s0c g16 s0 x0 x1 some).bind ret := by
  simp only [s0c, bif_bind, sum_bind, oa, os, on, ofs]
theorem ev {g16 : transomlaw04_Few.G} {s0 : S0} {a0 : List D_api_Value} : evAt (env g16 s0) [] [0] [.v (.one (.d (.sl T_api_Value) a0))] [] some = c g16 s0 a0 (fun r => some ⟨.v (.one (.d (.int .i64) r)), []⟩) := by
  kernel_rfl
theorem s0_ev {g16 : transomlaw04_Few.G} {s0 : S0} {x0 : List D_api_Value} {x1 : Int} : evAt (env g16 s0) [4, 1, 0, 1, 1] [0, 3] [.v (.one (.d (.sl T_api_Value) x0)), .v (.one (.d (.int .i64) x1))] [] some = s0c g16 s0 x0 x1 (fun r => some ⟨.v (.one (.d (.int .i64) r)), []⟩) := by
  kernel_rfl
def s0 : Nat → (List D_api_Value) → Int → Option Int
  | 0, _, _ => none
  | k + 1, x0, x1 => s0c (transomlaw04_Few.f k) (s0 k) x0 x1 some
def f (k : Nat) (a0 : List D_api_Value) : Option Int := c (transomlaw04_Few.f k) (s0 k) a0 some
theorem is {g16 : transomlaw04_Few.G} {s0 : S0} : FnIs (env g16 s0) 6 f6 := ⟨func6, rfl, rfl, rfl, by decide⟩
theorem envok {g16 : transomlaw04_Few.G} {s0 : S0} (h16 : CtOK prog 16 (transomlaw04_Few.ct g16)) : EnvOK (env g16 s0).toEnv := by
  intro f c h
  simp only [env] at h
  split at h
  · rename_i e; subst e; cases h; exact h16
  simp at h
noncomputable abbrev E (k : Nat) : FEnv := env (transomlaw04_Few.f k) (s0 k)
theorem hE (k : Nat) : EnvOK (E k).toEnv := envok (transomlaw04_Few.ok k)
theorem segs_ok : ∀ k, ∀ s ∈ (E k).segs, SegOK (E k) f6 s
  | 0 => by
    intro s hs
    simp only [E, env, List.mem_cons, List.not_mem_nil, or_false] at hs
    rcases hs with rfl
    · intro tvs blks res h; exfalso; simp only [sg0] at h; split at h <;> simp [s0] at h
  | k + 1 => by
    intro s hs
    simp only [E, env, List.mem_cons, List.not_mem_nil, or_false] at hs
    rcases hs with rfl
    · refine seg_of_ev (E := E k) (hE k) ⟨is.rvs⟩ (segs_ok k) ?_
      intro tvs blks res h
      simp only [sg0] at h
      split at h
      · exact (s0_ev.trans s0c_bind).trans h
      · simp at h
theorem ok (k : Nat) : CtOK prog 6 (ct (f k)) := by
  refine ct_of_ev (E := E k) is (hE k) (segs_ok k) rfl ?_
  intro tvs blks res h
  simp only [ct] at h
  split at h
  · exact (ev.trans c_bind).trans h
  · simp at h
end transomlaw05_Few
namespace transomlaw09_Few
abbrev G : Type := ByteArray → Int → (List D_api_Col) → Option Int
def ct (g : G) : Ct where
  nin := 0
  mv := []
  F := fun tvs blks {β} K => match tvs, blks with
    | [.v (.agg [(.d .str a0), (.d (.int .i64) a1), (.d (.sl (.pair .str (.pair (.int .i64) (.pair .bool (.pair (.pair (.int .i64) (.pair (.int .i64) (.pair (.int .u64) (.pair .str .unit)))) .unit))))) a2)])], [] => (g a0 a1 a2).bind fun r => K ⟨.v (.one (.d (.int .i64) r)), []⟩
    | _, _ => none
  legit := fun _ _ K _ h => by split at h; exact (legit1 K h :); simp at h
abbrev S0 : Type := Bool → ByteArray → Int → (List D_api_Col) → Option Int
abbrev S1 : Type := ByteArray → Int → (List D_api_Col) → Option Int
abbrev S2 : Type := Int → ByteArray → Int → (List D_api_Col) → Option Int
abbrev S3 : Type := Int → Bool → ByteArray → Int → (List D_api_Col) → Option Int
abbrev S4 : Type := Int → ByteArray → Int → (List D_api_Col) → Option Int
def sg0 (g : S0) : Seg where
  path := [1, 0, 1]
  prep := []
  keep := [1, 13]
  F := fun tvs blks {β} K => match tvs, blks with
    | [.v (.one (.ptr 0 0)), .v (.one (.d .bool x0))], [some (.box [(.d .str x1), (.d (.int .i64) x2), (.d (.sl (.pair .str (.pair (.int .i64) (.pair .bool (.pair (.pair (.int .i64) (.pair (.int .i64) (.pair (.int .u64) (.pair .str .unit)))) .unit))))) x3)])] => (g x0 x1 x2 x3).bind fun r => K ⟨.v (.one (.d (.int .i64) r)), []⟩
    | _, _ => none
  legit := fun _ _ K _ h => by split at h; exact (legit1 K h :); simp at h
def sg1 (g : S1) : Seg where
  path := [1, 1]
  prep := []
  keep := [1]
  F := fun tvs blks {β} K => match tvs, blks with
    | [.v (.one (.ptr 0 0))], [some (.box [(.d .str x0), (.d (.int .i64) x1), (.d (.sl (.pair .str (.pair (.int .i64) (.pair .bool (.pair (.pair (.int .i64) (.pair (.int .i64) (.pair (.int .u64) (.pair .str .unit)))) .unit))))) x2)])] => (g x0 x1 x2).bind fun r => K ⟨.v (.one (.d (.int .i64) r)), []⟩
    | _, _ => none
  legit := fun _ _ K _ h => by split at h; exact (legit1 K h :); simp at h
def sg2 (g : S2) : Seg where
  path := [4, 1, 0, 1, 1]
  prep := []
  keep := [1, 3]
  F := fun tvs blks {β} K => match tvs, blks with
    | [.v (.one (.ptr 0 0)), .v (.one (.d (.int .i64) x0))], [some (.box [(.d .str x1), (.d (.int .i64) x2), (.d (.sl (.pair .str (.pair (.int .i64) (.pair .bool (.pair (.pair (.int .i64) (.pair (.int .i64) (.pair (.int .u64) (.pair .str .unit)))) .unit))))) x3)])] => (g x0 x1 x2 x3).bind fun r => K ⟨.v (.one (.d (.int .i64) r)), []⟩
    | _, _ => none
  legit := fun _ _ K _ h => by split at h; exact (legit1 K h :); simp at h
def sg3 (g : S3) : Seg where
  path := [1, 4, 0, 1, 5, 4, 1, 0, 1, 1]
  prep := []
  keep := [1, 3, 38]
  F := fun tvs blks {β} K => match tvs, blks with
    | [.v (.one (.ptr 0 0)), .v (.one (.d (.int .i64) x0)), .v (.one (.d .bool x1))], [some (.box [(.d .str x2), (.d (.int .i64) x3), (.d (.sl (.pair .str (.pair (.int .i64) (.pair .bool (.pair (.pair (.int .i64) (.pair (.int .i64) (.pair (.int .u64) (.pair .str .unit)))) .unit))))) x4)])] => (g x0 x1 x2 x3 x4).bind fun r => K ⟨.v (.one (.d (.int .i64) r)), []⟩
    | _, _ => none
  legit := fun _ _ K _ h => by split at h; exact (legit1 K h :); simp at h
def sg4 (g : S4) : Seg where
  path := [1, 1, 5, 4, 1, 0, 1, 1]
  prep := []
  keep := [1, 3]
  F := fun tvs blks {β} K => match tvs, blks with
    | [.v (.one (.ptr 0 0)), .v (.one (.d (.int .i64) x0))], [some (.box [(.d .str x1), (.d (.int .i64) x2), (.d (.sl (.pair .str (.pair (.int .i64) (.pair .bool (.pair (.pair (.int .i64) (.pair (.int .i64) (.pair (.int .u64) (.pair .str .unit)))) .unit))))) x3)])] => (g x0 x1 x2 x3).bind fun r => K ⟨.v (.one (.d (.int .i64) r)), []⟩
    | _, _ => none
  legit := fun _ _ K _ h => by split at h; exact (legit1 K h :); simp at h
noncomputable def env (g16 : transomlaw04_Few.G) (s0 : S0) (s1 : S1) (s2 : S2) (s3 : S3) (s4 : S4) : FEnv := { P := prog, ct := fun m => if m = 16 then some (transomlaw04_Few.ct g16) else none, N := 39, body := f15.body.getD .skip, rvs := [.tmp 2], rts := [3], nin := 0, rmv := [], segs := [sg0 s0, sg1 s1, sg2 s2, sg3 s3, sg4 s4] }
def c {β : Type} (g16 : transomlaw04_Few.G) (s0 : S0) (s1 : S1) (s2 : S2) (s3 : S3) (s4 : S4) (a0 : ByteArray) (a1 : Int) (a2 : List D_api_Col) (ret : Int → Option β) : Option β := (bif (decide (((List.length a2) : Int) > (20 : Int))) then ((s0 true a0 a1 a2).bind ret) else ((s0 (decide (((ByteArray.size a0) : Int) > (500 : Int))) a0 a1 a2).bind ret))
def s0c {β : Type} (g16 : transomlaw04_Few.G) (s0 : S0) (s1 : S1) (s2 : S2) (s3 : S3) (s4 : S4) (x0 : Bool) (x1 : ByteArray) (x2 : Int) (x3 : List D_api_Col) (ret : Int → Option β) : Option β := (bif x0 then (ret ((0 : Int))) else ((s1 x1 x2 x3).bind ret))
def s1c {β : Type} (g16 : transomlaw04_Few.G) (s0 : S0) (s1 : S1) (s2 : S2) (s3 : S3) (s4 : S4) (x0 : ByteArray) (x1 : Int) (x2 : List D_api_Col) (ret : Int → Option β) : Option β := ((s2 (0 : Int) x0 x1 x2).bind ret)
def s2c {β : Type} (g16 : transomlaw04_Few.G) (s0 : S0) (s1 : S1) (s2 : S2) (s3 : S3) (s4 : S4) (x0 : Int) (x1 : ByteArray) (x2 : Int) (x3 : List D_api_Col) (ret : Int → Option β) : Option β := (bif (decide (x0 < ((List.length x3) : Int))) then (bif ((decide ((0 : Int) ≤ x0)) && (decide (x0 < ((List.length x3) : Int)))) then (bif (decide (((ByteArray.size (elem T_api_Col x3 x0).1) : Int) > (500 : Int))) then ((s3 x0 true x1 x2 x3).bind ret) else (bif ((decide ((0 : Int) ≤ x0)) && (decide (x0 < ((List.length x3) : Int)))) then ((g16 (elem T_api_Col x3 x0).2.2.2.1.1 (elem T_api_Col x3 x0).2.2.2.1.2.1 (elem T_api_Col x3 x0).2.2.2.1.2.2.1 (elem T_api_Col x3 x0).2.2.2.1.2.2.2.1).bind fun r0 => ((s3 x0 (r0 == (0 : Int)) x1 x2 x3).bind ret)) else none)) else none) else (ret ((1 : Int))))
def s3c {β : Type} (g16 : transomlaw04_Few.G) (s0 : S0) (s1 : S1) (s2 : S2) (s3 : S3) (s4 : S4) (x0 : Int) (x1 : Bool) (x2 : ByteArray) (x3 : Int) (x4 : List D_api_Col) (ret : Int → Option β) : Option β := (bif x1 then (ret ((0 : Int))) else ((s4 x0 x2 x3 x4).bind ret))
def s4c {β : Type} (g16 : transomlaw04_Few.G) (s0 : S0) (s1 : S1) (s2 : S2) (s3 : S3) (s4 : S4) (x0 : Int) (x1 : ByteArray) (x2 : Int) (x3 : List D_api_Col) (ret : Int → Option β) : Option β := ((s2 (IntKind.wrap IntKind.i64 (x0 + (1 : Int))) x1 x2 x3).bind ret)
theorem c_bind {β : Type} {g16 : transomlaw04_Few.G} {s0 : S0} {s1 : S1} {s2 : S2} {s3 : S3} {s4 : S4} {a0 : ByteArray} {a1 : Int} {a2 : List D_api_Col} {ret : Int → Option β} : c g16 s0 s1 s2 s3 s4 a0 a1 a2 ret = (c g16 s0 s1 s2 s3 s4 a0 a1 a2 some).bind ret := by
  simp only [c, bif_bind, sum_bind, oa, os, on, ofs]
theorem s0c_bind {β : Type} {g16 : transomlaw04_Few.G} {s0 : S0} {s1 : S1} {s2 : S2} {s3 : S3} {s4 : S4} {x0 : Bool} {x1 : ByteArray} {x2 : Int} {x3 : List D_api_Col} {ret : Int → Option β} : s0c g16 s0 s1 s2 s3 s4 x0 x1 x2 x3 ret = (s0c g16 s0 s1 s2 s3 s4 x0 x1 x2 x3 some).bind ret := by
  simp only [s0c, bif_bind, sum_bind, oa, os, on, ofs]
theorem s1c_bind {β : Type} {g16 : transomlaw04_Few.G} {s0 : S0} {s1 : S1} {s2 : S2} {s3 : S3} {s4 : S4} {x0 : ByteArray} {x1 : Int} {x2 : List D_api_Col} {ret : Int → Option β} : s1c g16 s0 s1 s2 s3 s4 x0 x1 x2 ret = (s1c g16 s0 s1 s2 s3 s4 x0 x1 x2 some).bind ret := by
  simp only [s1c, bif_bind, sum_bind, oa, os, on, ofs]
theorem s2c_bind {β : Type} {g16 : transomlaw04_Few.G} {s0 : S0} {s1 : S1} {s2 : S2} {s3 : S3} {s4 : S4} {x0 : Int} {x1 : ByteArray} {x2 : Int} {x3 : List D_api_Col} {ret : Int → Option β} : s2c g16 s0 s1 s2 s3 s4 x0 x1 x2 x3 ret = (s2c g16 s0 s1 s2 s3 s4 x0 x1 x2 x3 some).bind ret := by
  simp only [s2c, bif_bind, sum_bind, oa, os, on, ofs]
theorem s3c_bind {β : Type} {g16 : transomlaw04_Few.G} {s0 : S0} {s1 : S1} {s2 : S2} {s3 : S3} {s4 : S4} {x0 : Int} {x1 : Bool} {x2 : ByteArray} {x3 : Int} {x4 : List D_api_Col} {ret : Int → Option β} : s3c g16 s0 s1 s2 s3 s4 x0 x1 x2 x3 x4 ret = (s3c g16 s0 s1 s2 s3 s4 x0 x1 x2 x3 x4 some).bind ret := by
  simp only [s3c, bif_bind, sum_bind, oa, os, on, ofs]
theorem s4c_bind {β : Type} {g16 : transomlaw04_Few.G} {s0 : S0} {s1 : S1} {s2 : S2} {s3 : S3} {s4 : S4} {x0 : Int} {x1 : ByteArray} {x2 : Int} {x3 : List D_api_Col} {ret : Int → Option β} : s4c g16 s0 s1 s2 s3 s4 x0 x1 x2 x3 ret = (s4c g16 s0 s1 s2 s3 s4 x0 x1 x2 x3 some).bind ret := by
  simp only [s4c, bif_bind, sum_bind, oa, os, on, ofs]
theorem ev {g16 : transomlaw04_Few.G} {s0 : S0} {s1 : S1} {s2 : S2} {s3 : S3} {s4 : S4} {a0 : ByteArray} {a1 : Int} {a2 : List D_api_Col} : evAt (env g16 s0 s1 s2 s3 s4) [] [0] [.v (.agg [(.d .str a0), (.d (.int .i64) a1), (.d (.sl T_api_Col) a2)])] [] some = c g16 s0 s1 s2 s3 s4 a0 a1 a2 (fun r => some ⟨.v (.one (.d (.int .i64) r)), []⟩) := by
  kernel_rfl
theorem s0_ev {g16 : transomlaw04_Few.G} {s0 : S0} {s1 : S1} {s2 : S2} {s3 : S3} {s4 : S4} {x0 : Bool} {x1 : ByteArray} {x2 : Int} {x3 : List D_api_Col} : evAt (env g16 s0 s1 s2 s3 s4) [1, 0, 1] [1, 13] [.v (.one (.ptr 0 0)), .v (.one (.d .bool x0))] [some (.box [(.d .str x1), (.d (.int .i64) x2), (.d (.sl T_api_Col) x3)])] some = s0c g16 s0 s1 s2 s3 s4 x0 x1 x2 x3 (fun r => some ⟨.v (.one (.d (.int .i64) r)), []⟩) := by
  kernel_rfl
theorem s1_ev {g16 : transomlaw04_Few.G} {s0 : S0} {s1 : S1} {s2 : S2} {s3 : S3} {s4 : S4} {x0 : ByteArray} {x1 : Int} {x2 : List D_api_Col} : evAt (env g16 s0 s1 s2 s3 s4) [1, 1] [1] [.v (.one (.ptr 0 0))] [some (.box [(.d .str x0), (.d (.int .i64) x1), (.d (.sl T_api_Col) x2)])] some = s1c g16 s0 s1 s2 s3 s4 x0 x1 x2 (fun r => some ⟨.v (.one (.d (.int .i64) r)), []⟩) := by
  kernel_rfl
theorem s2_ev {g16 : transomlaw04_Few.G} {s0 : S0} {s1 : S1} {s2 : S2} {s3 : S3} {s4 : S4} {x0 : Int} {x1 : ByteArray} {x2 : Int} {x3 : List D_api_Col} : evAt (env g16 s0 s1 s2 s3 s4) [4, 1, 0, 1, 1] [1, 3] [.v (.one (.ptr 0 0)), .v (.one (.d (.int .i64) x0))] [some (.box [(.d .str x1), (.d (.int .i64) x2), (.d (.sl T_api_Col) x3)])] some = s2c g16 s0 s1 s2 s3 s4 x0 x1 x2 x3 (fun r => some ⟨.v (.one (.d (.int .i64) r)), []⟩) := by
  kernel_rfl
theorem s3_ev {g16 : transomlaw04_Few.G} {s0 : S0} {s1 : S1} {s2 : S2} {s3 : S3} {s4 : S4} {x0 : Int} {x1 : Bool} {x2 : ByteArray} {x3 : Int} {x4 : List D_api_Col} : evAt (env g16 s0 s1 s2 s3 s4) [1, 4, 0, 1, 5, 4, 1, 0, 1, 1] [1, 3, 38] [.v (.one (.ptr 0 0)), .v (.one (.d (.int .i64) x0)), .v (.one (.d .bool x1))] [some (.box [(.d .str x2), (.d (.int .i64) x3), (.d (.sl T_api_Col) x4)])] some = s3c g16 s0 s1 s2 s3 s4 x0 x1 x2 x3 x4 (fun r => some ⟨.v (.one (.d (.int .i64) r)), []⟩) := by
  kernel_rfl
theorem s4_ev {g16 : transomlaw04_Few.G} {s0 : S0} {s1 : S1} {s2 : S2} {s3 : S3} {s4 : S4} {x0 : Int} {x1 : ByteArray} {x2 : Int} {x3 : List D_api_Col} : evAt (env g16 s0 s1 s2 s3 s4) [1, 1, 5, 4, 1, 0, 1, 1] [1, 3] [.v (.one (.ptr 0 0)), .v (.one (.d (.int .i64) x0))] [some (.box [(.d .str x1), (.d (.int .i64) x2), (.d (.sl T_api_Col) x3)])] some = s4c g16 s0 s1 s2 s3 s4 x0 x1 x2 x3 (fun r => some ⟨.v (.one (.d (.int .i64) r)), []⟩) := by
  kernel_rfl
mutual
def s0 : Nat → Bool → ByteArray → Int → (List D_api_Col) → Option Int
  | 0, _, _, _, _ => none
  | k + 1, x0, x1, x2, x3 => s0c (transomlaw04_Few.f k) (s0 k) (s1 k) (s2 k) (s3 k) (s4 k) x0 x1 x2 x3 some
def s1 : Nat → ByteArray → Int → (List D_api_Col) → Option Int
  | 0, _, _, _ => none
  | k + 1, x0, x1, x2 => s1c (transomlaw04_Few.f k) (s0 k) (s1 k) (s2 k) (s3 k) (s4 k) x0 x1 x2 some
def s2 : Nat → Int → ByteArray → Int → (List D_api_Col) → Option Int
  | 0, _, _, _, _ => none
  | k + 1, x0, x1, x2, x3 => s2c (transomlaw04_Few.f k) (s0 k) (s1 k) (s2 k) (s3 k) (s4 k) x0 x1 x2 x3 some
def s3 : Nat → Int → Bool → ByteArray → Int → (List D_api_Col) → Option Int
  | 0, _, _, _, _, _ => none
  | k + 1, x0, x1, x2, x3, x4 => s3c (transomlaw04_Few.f k) (s0 k) (s1 k) (s2 k) (s3 k) (s4 k) x0 x1 x2 x3 x4 some
def s4 : Nat → Int → ByteArray → Int → (List D_api_Col) → Option Int
  | 0, _, _, _, _ => none
  | k + 1, x0, x1, x2, x3 => s4c (transomlaw04_Few.f k) (s0 k) (s1 k) (s2 k) (s3 k) (s4 k) x0 x1 x2 x3 some
end
def f (k : Nat) (a0 : ByteArray) (a1 : Int) (a2 : List D_api_Col) : Option Int := c (transomlaw04_Few.f k) (s0 k) (s1 k) (s2 k) (s3 k) (s4 k) a0 a1 a2 some
theorem is {g16 : transomlaw04_Few.G} {s0 : S0} {s1 : S1} {s2 : S2} {s3 : S3} {s4 : S4} : FnIs (env g16 s0 s1 s2 s3 s4) 15 f15 := ⟨func15, rfl, rfl, rfl, by decide⟩
theorem envok {g16 : transomlaw04_Few.G} {s0 : S0} {s1 : S1} {s2 : S2} {s3 : S3} {s4 : S4} (h16 : CtOK prog 16 (transomlaw04_Few.ct g16)) : EnvOK (env g16 s0 s1 s2 s3 s4).toEnv := by
  intro f c h
  simp only [env] at h
  split at h
  · rename_i e; subst e; cases h; exact h16
  simp at h
noncomputable abbrev E (k : Nat) : FEnv := env (transomlaw04_Few.f k) (s0 k) (s1 k) (s2 k) (s3 k) (s4 k)
theorem hE (k : Nat) : EnvOK (E k).toEnv := envok (transomlaw04_Few.ok k)
theorem segs_ok : ∀ k, ∀ s ∈ (E k).segs, SegOK (E k) f15 s
  | 0 => by
    intro s hs
    simp only [E, env, List.mem_cons, List.not_mem_nil, or_false] at hs
    rcases hs with rfl | rfl | rfl | rfl | rfl
    · intro tvs blks res h; exfalso; simp only [sg0] at h; split at h <;> simp [s0] at h
    · intro tvs blks res h; exfalso; simp only [sg1] at h; split at h <;> simp [s1] at h
    · intro tvs blks res h; exfalso; simp only [sg2] at h; split at h <;> simp [s2] at h
    · intro tvs blks res h; exfalso; simp only [sg3] at h; split at h <;> simp [s3] at h
    · intro tvs blks res h; exfalso; simp only [sg4] at h; split at h <;> simp [s4] at h
  | k + 1 => by
    intro s hs
    simp only [E, env, List.mem_cons, List.not_mem_nil, or_false] at hs
    rcases hs with rfl | rfl | rfl | rfl | rfl
    · refine seg_of_ev (E := E k) (hE k) ⟨is.rvs⟩ (segs_ok k) ?_
      intro tvs blks res h
      simp only [sg0] at h
      split at h
      · exact (s0_ev.trans s0c_bind).trans h
      · simp at h
    · refine seg_of_ev (E := E k) (hE k) ⟨is.rvs⟩ (segs_ok k) ?_
      intro tvs blks res h
      simp only [sg1] at h
      split at h
      · exact (s1_ev.trans s1c_bind).trans h
      · simp at h
    · refine seg_of_ev (E := E k) (hE k) ⟨is.rvs⟩ (segs_ok k) ?_
      intro tvs blks res h
      simp only [sg2] at h
      split at h
      · exact (s2_ev.trans s2c_bind).trans h
      · simp at h
    · refine seg_of_ev (E := E k) (hE k) ⟨is.rvs⟩ (segs_ok k) ?_
      intro tvs blks res h
      simp only [sg3] at h
      split at h
      · exact (s3_ev.trans s3c_bind).trans h
      · simp at h
    · refine seg_of_ev (E := E k) (hE k) ⟨is.rvs⟩ (segs_ok k) ?_
      intro tvs blks res h
      simp only [sg4] at h
      split at h
      · exact (s4_ev.trans s4c_bind).trans h
      · simp at h
theorem ok (k : Nat) : CtOK prog 15 (ct (f k)) := by
  refine ct_of_ev (E := E k) is (hE k) (segs_ok k) rfl ?_
  intro tvs blks res h
  simp only [ct] at h
  split at h
  · exact (ev.trans c_bind).trans h
  · simp at h
end transomlaw09_Few
end Go.Proofs.YtdbbkmmillnaiaaGreatDoor.Aev
