/- By a program of this session (AEV): functions of the program as plain functions, and that the machine does what they say. -/
import Derived.Test.YtdbbkmmillnaiaaGreatDoorTys
import Derived.Test.YtdbbkmmillnaiaaGreatDoorProg
import Derived.Laws.Externs
import Derived.Lib.Bytealg
import Derived.Test.YtdbbkmmillnaiaaGreatDoorF15
namespace Go.Proofs.YtdbbkmmillnaiaaGreatDoor.Aev
set_option linter.unusedVariables false
set_option linter.unusedSimpArgs false
set_option maxRecDepth 100000
set_option maxHeartbeats 4000000
open Go Go.Proofs.Tryz
namespace transomref04_SameRow
abbrev G : Type := (List D_api_Value) → (List D_api_Value) → Option Bool
def ct (g : G) : Ct where
  nin := 0
  mv := []
  F := fun tvs blks {β} K => match tvs, blks with
    | [.v (.one (.d (.sl (.pair (.int .i64) (.pair (.int .i64) (.pair (.int .u64) (.pair .str .unit))))) a0)), .v (.one (.d (.sl (.pair (.int .i64) (.pair (.int .i64) (.pair (.int .u64) (.pair .str .unit))))) a1))], [] => (g a0 a1).bind fun r => K ⟨.v (.one (.d .bool r)), []⟩
    | _, _ => none
  legit := fun _ _ K _ h => by split at h; exact (legit1 K h :); simp at h
abbrev S0 : Type := (List D_api_Value) → (List D_api_Value) → Int → Option Bool
def sg0 (g : S0) : Seg where
  path := [4, 1, 0, 1, 1]
  prep := []
  keep := [0, 1, 5]
  F := fun tvs blks {β} K => match tvs, blks with
    | [.v (.one (.d (.sl (.pair (.int .i64) (.pair (.int .i64) (.pair (.int .u64) (.pair .str .unit))))) x0)), .v (.one (.d (.sl (.pair (.int .i64) (.pair (.int .i64) (.pair (.int .u64) (.pair .str .unit))))) x1)), .v (.one (.d (.int .i64) x2))], [] => (g x0 x1 x2).bind fun r => K ⟨.v (.one (.d .bool r)), []⟩
    | _, _ => none
  legit := fun _ _ K _ h => by split at h; exact (legit1 K h :); simp at h
noncomputable def env (g72 : transomref04_Same.G) (s0 : S0) : FEnv := { P := prog, ct := fun m => if m = 72 then some (transomref04_Same.ct g72) else none, N := 27, body := f49.body.getD .skip, rvs := [.tmp 4], rts := [4], nin := 0, rmv := [], segs := [sg0 s0] }
def c {β : Type} (g72 : transomref04_Same.G) (s0 : S0) (a0 : List D_api_Value) (a1 : List D_api_Value) (ret : Bool → Option β) : Option β := (bif (((List.length a0) : Int) != ((List.length a1) : Int)) then (ret (false)) else ((s0 a0 a1 (0 : Int)).bind ret))
def s0c {β : Type} (g72 : transomref04_Same.G) (s0 : S0) (x0 : List D_api_Value) (x1 : List D_api_Value) (x2 : Int) (ret : Bool → Option β) : Option β := (bif (decide (x2 < ((List.length x0) : Int))) then (bif ((decide ((0 : Int) ≤ x2)) && (decide (x2 < ((List.length x0) : Int)))) then (bif ((decide ((0 : Int) ≤ x2)) && (decide (x2 < ((List.length x1) : Int)))) then ((g72 (elem T_api_Value x0 x2).1 (elem T_api_Value x0 x2).2.1 (elem T_api_Value x0 x2).2.2.1 (elem T_api_Value x0 x2).2.2.2.1 (elem T_api_Value x1 x2).1 (elem T_api_Value x1 x2).2.1 (elem T_api_Value x1 x2).2.2.1 (elem T_api_Value x1 x2).2.2.2.1).bind fun r0 => (bif (!r0) then (ret (false)) else ((s0 x0 x1 (IntKind.wrap IntKind.i64 (x2 + (1 : Int)))).bind ret))) else none) else none) else (ret (true)))
theorem c_bind {β : Type} {g72 : transomref04_Same.G} {s0 : S0} {a0 : List D_api_Value} {a1 : List D_api_Value} {ret : Bool → Option β} : c g72 s0 a0 a1 ret = (c g72 s0 a0 a1 some).bind ret := by
  simp only [c, bif_bind, sum_bind, oa, os, on, ofs]
theorem s0c_bind {β : Type} {g72 : transomref04_Same.G} {s0 : S0} {x0 : List D_api_Value} {x1 : List D_api_Value} {x2 : Int} {ret : Bool → Option β} : s0c g72 s0 x0 x1 x2 ret = (s0c g72 s0 x0 x1 x2 some).bind ret := by
  simp only [s0c, bif_bind, sum_bind, oa, os, on, ofs]
theorem ev {g72 : transomref04_Same.G} {s0 : S0} {a0 : List D_api_Value} {a1 : List D_api_Value} : evAt (env g72 s0) [] [0, 1] [.v (.one (.d (.sl T_api_Value) a0)), .v (.one (.d (.sl T_api_Value) a1))] [] some = c g72 s0 a0 a1 (fun r => some ⟨.v (.one (.d .bool r)), []⟩) := by
  kernel_rfl
theorem s0_ev {g72 : transomref04_Same.G} {s0 : S0} {x0 : List D_api_Value} {x1 : List D_api_Value} {x2 : Int} : evAt (env g72 s0) [4, 1, 0, 1, 1] [0, 1, 5] [.v (.one (.d (.sl T_api_Value) x0)), .v (.one (.d (.sl T_api_Value) x1)), .v (.one (.d (.int .i64) x2))] [] some = s0c g72 s0 x0 x1 x2 (fun r => some ⟨.v (.one (.d .bool r)), []⟩) := by
  kernel_rfl
def s0 : Nat → (List D_api_Value) → (List D_api_Value) → Int → Option Bool
  | 0, _, _, _ => none
  | k + 1, x0, x1, x2 => s0c (transomref04_Same.f k) (s0 k) x0 x1 x2 some
def f (k : Nat) (a0 : List D_api_Value) (a1 : List D_api_Value) : Option Bool := c (transomref04_Same.f k) (s0 k) a0 a1 some
theorem is {g72 : transomref04_Same.G} {s0 : S0} : FnIs (env g72 s0) 49 f49 := ⟨func49, rfl, rfl, rfl, by decide⟩
theorem envok {g72 : transomref04_Same.G} {s0 : S0} (h72 : CtOK prog 72 (transomref04_Same.ct g72)) : EnvOK (env g72 s0).toEnv := by
  intro f c h
  simp only [env] at h
  split at h
  · rename_i e; subst e; cases h; exact h72
  simp at h
noncomputable abbrev E (k : Nat) : FEnv := env (transomref04_Same.f k) (s0 k)
theorem hE (k : Nat) : EnvOK (E k).toEnv := envok (transomref04_Same.ok k)
theorem segs_ok : ∀ k, ∀ s ∈ (E k).segs, SegOK (E k) f49 s
  | 0 => by
    intro s hs
    simp only [E, env, List.mem_cons, List.not_mem_nil, or_false] at hs
    rcases hs with rfl
    · intro tvs blks res h; exfalso; simp only [sg0] at h; split at h <;> simp [s0] at h
  | k + 1 => by
    intro s hs
    simp only [E, env, List.mem_cons, List.not_mem_nil, or_false] at hs
    rcases hs with rfl
    · refine seg_of_ev (E := E k) (hE k) ⟨is.rvs⟩ (segs_ok k) ?_
      intro tvs blks res h
      simp only [sg0] at h
      split at h
      · exact (s0_ev.trans s0c_bind).trans h
      · simp at h
theorem ok (k : Nat) : CtOK prog 49 (ct (f k)) := by
  refine ct_of_ev (E := E k) is (hE k) (segs_ok k) rfl ?_
  intro tvs blks res h
  simp only [ct] at h
  split at h
  · exact (ev.trans c_bind).trans h
  · simp at h
end transomref04_SameRow
namespace transomref06_Same
abbrev G : Type := (List D_api_Value) → (List D_api_Value) → Option Bool
def ct (g : G) : Ct where
  nin := 0
  mv := []
  F := fun tvs blks {β} K => match tvs, blks with
    | [.v (.one (.d (.sl (.pair (.int .i64) (.pair (.int .i64) (.pair (.int .u64) (.pair .str .unit))))) a0)), .v (.one (.d (.sl (.pair (.int .i64) (.pair (.int .i64) (.pair (.int .u64) (.pair .str .unit))))) a1))], [] => (g a0 a1).bind fun r => K ⟨.v (.one (.d .bool r)), []⟩
    | _, _ => none
  legit := fun _ _ K _ h => by split at h; exact (legit1 K h :); simp at h
noncomputable def env (g49 : transomref04_SameRow.G)  : FEnv := { P := prog, ct := fun m => if m = 49 then some (transomref04_SameRow.ct g49) else none, N := 8, body := f38.body.getD .skip, rvs := [.tmp 4], rts := [4], nin := 0, rmv := [], segs := [] }
def c {β : Type} (g49 : transomref04_SameRow.G)  (a0 : List D_api_Value) (a1 : List D_api_Value) (ret : Bool → Option β) : Option β := ((g49 a0 a1).bind fun r0 => (ret (r0)))
theorem c_bind {β : Type} {g49 : transomref04_SameRow.G}  {a0 : List D_api_Value} {a1 : List D_api_Value} {ret : Bool → Option β} : c g49  a0 a1 ret = (c g49  a0 a1 some).bind ret := by
  simp only [c, bif_bind, sum_bind, oa, os, on, ofs]
theorem ev {g49 : transomref04_SameRow.G}  {a0 : List D_api_Value} {a1 : List D_api_Value} : evAt (env g49 ) [] [0, 1] [.v (.one (.d (.sl T_api_Value) a0)), .v (.one (.d (.sl T_api_Value) a1))] [] some = c g49  a0 a1 (fun r => some ⟨.v (.one (.d .bool r)), []⟩) := by
  kernel_rfl
def f (k : Nat) (a0 : List D_api_Value) (a1 : List D_api_Value) : Option Bool := c (transomref04_SameRow.f k)  a0 a1 some
theorem is {g49 : transomref04_SameRow.G}  : FnIs (env g49 ) 38 f38 := ⟨func38, rfl, rfl, rfl, by decide⟩
theorem envok {g49 : transomref04_SameRow.G}  (h49 : CtOK prog 49 (transomref04_SameRow.ct g49)) : EnvOK (env g49 ).toEnv := by
  intro f c h
  simp only [env] at h
  split at h
  · rename_i e; subst e; cases h; exact h49
  simp at h
noncomputable abbrev E (k : Nat) : FEnv := env (transomref04_SameRow.f k) 
theorem hE (k : Nat) : EnvOK (E k).toEnv := envok (transomref04_SameRow.ok k)
theorem ok (k : Nat) : CtOK prog 38 (ct (f k)) := by
  refine ct_of_ev (E := E k) is (hE k) (fun s hs => by simp [E, env] at hs) rfl ?_
  intro tvs blks res h
  simp only [ct] at h
  split at h
  · exact (ev.trans c_bind).trans h
  · simp at h
end transomref06_Same
namespace transomref12_SameLines
abbrev G : Type := (List D_api_Line) → (List D_api_Line) → Option Bool
def ct (g : G) : Ct where
  nin := 0
  mv := []
  F := fun tvs blks {β} K => match tvs, blks with
    | [.v (.one (.d (.sl (.pair .str (.pair (.sl (.pair (.int .i64) (.pair (.int .i64) (.pair (.int .u64) (.pair .str .unit))))) .unit))) a0)), .v (.one (.d (.sl (.pair .str (.pair (.sl (.pair (.int .i64) (.pair (.int .i64) (.pair (.int .u64) (.pair .str .unit))))) .unit))) a1))], [] => (g a0 a1).bind fun r => K ⟨.v (.one (.d .bool r)), []⟩
    | _, _ => none
  legit := fun _ _ K _ h => by split at h; exact (legit1 K h :); simp at h
abbrev S0 : Type := (List D_api_Line) → (List D_api_Line) → Int → Option Bool
abbrev S1 : Type := (List D_api_Line) → (List D_api_Line) → Int → Bool → Option Bool
abbrev S2 : Type := (List D_api_Line) → (List D_api_Line) → Int → Option Bool
def sg0 (g : S0) : Seg where
  path := [4, 1, 0, 1, 1]
  prep := []
  keep := [0, 1, 5]
  F := fun tvs blks {β} K => match tvs, blks with
    | [.v (.one (.d (.sl (.pair .str (.pair (.sl (.pair (.int .i64) (.pair (.int .i64) (.pair (.int .u64) (.pair .str .unit))))) .unit))) x0)), .v (.one (.d (.sl (.pair .str (.pair (.sl (.pair (.int .i64) (.pair (.int .i64) (.pair (.int .u64) (.pair .str .unit))))) .unit))) x1)), .v (.one (.d (.int .i64) x2))], [] => (g x0 x1 x2).bind fun r => K ⟨.v (.one (.d .bool r)), []⟩
    | _, _ => none
  legit := fun _ _ K _ h => by split at h; exact (legit1 K h :); simp at h
def sg1 (g : S1) : Seg where
  path := [1, 4, 0, 1, 5, 4, 1, 0, 1, 1]
  prep := []
  keep := [0, 1, 5, 41]
  F := fun tvs blks {β} K => match tvs, blks with
    | [.v (.one (.d (.sl (.pair .str (.pair (.sl (.pair (.int .i64) (.pair (.int .i64) (.pair (.int .u64) (.pair .str .unit))))) .unit))) x0)), .v (.one (.d (.sl (.pair .str (.pair (.sl (.pair (.int .i64) (.pair (.int .i64) (.pair (.int .u64) (.pair .str .unit))))) .unit))) x1)), .v (.one (.d (.int .i64) x2)), .v (.one (.d .bool x3))], [] => (g x0 x1 x2 x3).bind fun r => K ⟨.v (.one (.d .bool r)), []⟩
    | _, _ => none
  legit := fun _ _ K _ h => by split at h; exact (legit1 K h :); simp at h
def sg2 (g : S2) : Seg where
  path := [1, 1, 5, 4, 1, 0, 1, 1]
  prep := []
  keep := [0, 1, 5]
  F := fun tvs blks {β} K => match tvs, blks with
    | [.v (.one (.d (.sl (.pair .str (.pair (.sl (.pair (.int .i64) (.pair (.int .i64) (.pair (.int .u64) (.pair .str .unit))))) .unit))) x0)), .v (.one (.d (.sl (.pair .str (.pair (.sl (.pair (.int .i64) (.pair (.int .i64) (.pair (.int .u64) (.pair .str .unit))))) .unit))) x1)), .v (.one (.d (.int .i64) x2))], [] => (g x0 x1 x2).bind fun r => K ⟨.v (.one (.d .bool r)), []⟩
    | _, _ => none
  legit := fun _ _ K _ h => by split at h; exact (legit1 K h :); simp at h
noncomputable def env (g38 : transomref06_Same.G) (s0 : S0) (s1 : S1) (s2 : S2) : FEnv := { P := prog, ct := fun m => if m = 38 then some (transomref06_Same.ct g38) else none, N := 42, body := f28.body.getD .skip, rvs := [.tmp 4], rts := [4], nin := 0, rmv := [], segs := [sg0 s0, sg1 s1, sg2 s2] }
def c {β : Type} (g38 : transomref06_Same.G) (s0 : S0) (s1 : S1) (s2 : S2) (a0 : List D_api_Line) (a1 : List D_api_Line) (ret : Bool → Option β) : Option β := (bif (((List.length a0) : Int) != ((List.length a1) : Int)) then (ret (false)) else ((s0 a0 a1 (0 : Int)).bind ret))
def s0c {β : Type} (g38 : transomref06_Same.G) (s0 : S0) (s1 : S1) (s2 : S2) (x0 : List D_api_Line) (x1 : List D_api_Line) (x2 : Int) (ret : Bool → Option β) : Option β := (bif (decide (x2 < ((List.length x0) : Int))) then (bif ((decide ((0 : Int) ≤ x2)) && (decide (x2 < ((List.length x0) : Int)))) then (bif ((decide ((0 : Int) ≤ x2)) && (decide (x2 < ((List.length x1) : Int)))) then (bif (!((ByteArray.toList (elem T_api_Line x0 x2).1) == (ByteArray.toList (elem T_api_Line x1 x2).1))) then ((s1 x0 x1 x2 true).bind ret) else (bif ((decide ((0 : Int) ≤ x2)) && (decide (x2 < ((List.length x0) : Int)))) then (bif ((decide ((0 : Int) ≤ x2)) && (decide (x2 < ((List.length x1) : Int)))) then ((g38 (elem T_api_Line x0 x2).2.1 (elem T_api_Line x1 x2).2.1).bind fun r0 => ((s1 x0 x1 x2 (!r0)).bind ret)) else none) else none)) else none) else none) else (ret (true)))
def s1c {β : Type} (g38 : transomref06_Same.G) (s0 : S0) (s1 : S1) (s2 : S2) (x0 : List D_api_Line) (x1 : List D_api_Line) (x2 : Int) (x3 : Bool) (ret : Bool → Option β) : Option β := (bif x3 then (ret (false)) else ((s2 x0 x1 x2).bind ret))
def s2c {β : Type} (g38 : transomref06_Same.G) (s0 : S0) (s1 : S1) (s2 : S2) (x0 : List D_api_Line) (x1 : List D_api_Line) (x2 : Int) (ret : Bool → Option β) : Option β := ((s0 x0 x1 (IntKind.wrap IntKind.i64 (x2 + (1 : Int)))).bind ret)
theorem c_bind {β : Type} {g38 : transomref06_Same.G} {s0 : S0} {s1 : S1} {s2 : S2} {a0 : List D_api_Line} {a1 : List D_api_Line} {ret : Bool → Option β} : c g38 s0 s1 s2 a0 a1 ret = (c g38 s0 s1 s2 a0 a1 some).bind ret := by
  simp only [c, bif_bind, sum_bind, oa, os, on, ofs]
theorem s0c_bind {β : Type} {g38 : transomref06_Same.G} {s0 : S0} {s1 : S1} {s2 : S2} {x0 : List D_api_Line} {x1 : List D_api_Line} {x2 : Int} {ret : Bool → Option β} : s0c g38 s0 s1 s2 x0 x1 x2 ret = (s0c g38 s0 s1 s2 x0 x1 x2 some).bind ret := by
  simp only [s0c, bif_bind, sum_bind, oa, os, on, ofs]
theorem s1c_bind {β : Type} {g38 : transomref06_Same.G} {s0 : S0} {s1 : S1} {s2 : S2} {x0 : List D_api_Line} {x1 : List D_api_Line} {x2 : Int} {x3 : Bool} {ret : Bool → Option β} : s1c g38 s0 s1 s2 x0 x1 x2 x3 ret = (s1c g38 s0 s1 s2 x0 x1 x2 x3 some).bind ret := by
  simp only [s1c, bif_bind, sum_bind, oa, os, on, ofs]
theorem s2c_bind {β : Type} {g38 : transomref06_Same.G} {s0 : S0} {s1 : S1} {s2 : S2} {x0 : List D_api_Line} {x1 : List D_api_Line} {x2 : Int} {ret : Bool → Option β} : s2c g38 s0 s1 s2 x0 x1 x2 ret = (s2c g38 s0 s1 s2 x0 x1 x2 some).bind ret := by
  simp only [s2c, bif_bind, sum_bind, oa, os, on, ofs]
theorem ev {g38 : transomref06_Same.G} {s0 : S0} {s1 : S1} {s2 : S2} {a0 : List D_api_Line} {a1 : List D_api_Line} : evAt (env g38 s0 s1 s2) [] [0, 1] [.v (.one (.d (.sl T_api_Line) a0)), .v (.one (.d (.sl T_api_Line) a1))] [] some = c g38 s0 s1 s2 a0 a1 (fun r => some ⟨.v (.one (.d .bool r)), []⟩) := by
  kernel_rfl
theorem s0_ev {g38 : transomref06_Same.G} {s0 : S0} {s1 : S1} {s2 : S2} {x0 : List D_api_Line} {x1 : List D_api_Line} {x2 : Int} : evAt (env g38 s0 s1 s2) [4, 1, 0, 1, 1] [0, 1, 5] [.v (.one (.d (.sl T_api_Line) x0)), .v (.one (.d (.sl T_api_Line) x1)), .v (.one (.d (.int .i64) x2))] [] some = s0c g38 s0 s1 s2 x0 x1 x2 (fun r => some ⟨.v (.one (.d .bool r)), []⟩) := by
  kernel_rfl
theorem s1_ev {g38 : transomref06_Same.G} {s0 : S0} {s1 : S1} {s2 : S2} {x0 : List D_api_Line} {x1 : List D_api_Line} {x2 : Int} {x3 : Bool} : evAt (env g38 s0 s1 s2) [1, 4, 0, 1, 5, 4, 1, 0, 1, 1] [0, 1, 5, 41] [.v (.one (.d (.sl T_api_Line) x0)), .v (.one (.d (.sl T_api_Line) x1)), .v (.one (.d (.int .i64) x2)), .v (.one (.d .bool x3))] [] some = s1c g38 s0 s1 s2 x0 x1 x2 x3 (fun r => some ⟨.v (.one (.d .bool r)), []⟩) := by
  kernel_rfl
theorem s2_ev {g38 : transomref06_Same.G} {s0 : S0} {s1 : S1} {s2 : S2} {x0 : List D_api_Line} {x1 : List D_api_Line} {x2 : Int} : evAt (env g38 s0 s1 s2) [1, 1, 5, 4, 1, 0, 1, 1] [0, 1, 5] [.v (.one (.d (.sl T_api_Line) x0)), .v (.one (.d (.sl T_api_Line) x1)), .v (.one (.d (.int .i64) x2))] [] some = s2c g38 s0 s1 s2 x0 x1 x2 (fun r => some ⟨.v (.one (.d .bool r)), []⟩) := by
  kernel_rfl
mutual
def s0 : Nat → (List D_api_Line) → (List D_api_Line) → Int → Option Bool
  | 0, _, _, _ => none
  | k + 1, x0, x1, x2 => s0c (transomref06_Same.f k) (s0 k) (s1 k) (s2 k) x0 x1 x2 some
def s1 : Nat → (List D_api_Line) → (List D_api_Line) → Int → Bool → Option Bool
  | 0, _, _, _, _ => none
  | k + 1, x0, x1, x2, x3 => s1c (transomref06_Same.f k) (s0 k) (s1 k) (s2 k) x0 x1 x2 x3 some
def s2 : Nat → (List D_api_Line) → (List D_api_Line) → Int → Option Bool
  | 0, _, _, _ => none
  | k + 1, x0, x1, x2 => s2c (transomref06_Same.f k) (s0 k) (s1 k) (s2 k) x0 x1 x2 some
end
def f (k : Nat) (a0 : List D_api_Line) (a1 : List D_api_Line) : Option Bool := c (transomref06_Same.f k) (s0 k) (s1 k) (s2 k) a0 a1 some
theorem is {g38 : transomref06_Same.G} {s0 : S0} {s1 : S1} {s2 : S2} : FnIs (env g38 s0 s1 s2) 28 f28 := ⟨func28, rfl, rfl, rfl, by decide⟩
theorem envok {g38 : transomref06_Same.G} {s0 : S0} {s1 : S1} {s2 : S2} (h38 : CtOK prog 38 (transomref06_Same.ct g38)) : EnvOK (env g38 s0 s1 s2).toEnv := by
  intro f c h
  simp only [env] at h
  split at h
  · rename_i e; subst e; cases h; exact h38
  simp at h
noncomputable abbrev E (k : Nat) : FEnv := env (transomref06_Same.f k) (s0 k) (s1 k) (s2 k)
theorem hE (k : Nat) : EnvOK (E k).toEnv := envok (transomref06_Same.ok k)
theorem segs_ok : ∀ k, ∀ s ∈ (E k).segs, SegOK (E k) f28 s
  | 0 => by
    intro s hs
    simp only [E, env, List.mem_cons, List.not_mem_nil, or_false] at hs
    rcases hs with rfl | rfl | rfl
    · intro tvs blks res h; exfalso; simp only [sg0] at h; split at h <;> simp [s0] at h
    · intro tvs blks res h; exfalso; simp only [sg1] at h; split at h <;> simp [s1] at h
    · intro tvs blks res h; exfalso; simp only [sg2] at h; split at h <;> simp [s2] at h
  | k + 1 => by
    intro s hs
    simp only [E, env, List.mem_cons, List.not_mem_nil, or_false] at hs
    rcases hs with rfl | rfl | rfl
    · refine seg_of_ev (E := E k) (hE k) ⟨is.rvs⟩ (segs_ok k) ?_
      intro tvs blks res h
      simp only [sg0] at h
      split at h
      · exact (s0_ev.trans s0c_bind).trans h
      · simp at h
    · refine seg_of_ev (E := E k) (hE k) ⟨is.rvs⟩ (segs_ok k) ?_
      intro tvs blks res h
      simp only [sg1] at h
      split at h
      · exact (s1_ev.trans s1c_bind).trans h
      · simp at h
    · refine seg_of_ev (E := E k) (hE k) ⟨is.rvs⟩ (segs_ok k) ?_
      intro tvs blks res h
      simp only [sg2] at h
      split at h
      · exact (s2_ev.trans s2c_bind).trans h
      · simp at h
theorem ok (k : Nat) : CtOK prog 28 (ct (f k)) := by
  refine ct_of_ev (E := E k) is (hE k) (segs_ok k) rfl ?_
  intro tvs blks res h
  simp only [ct] at h
  split at h
  · exact (ev.trans c_bind).trans h
  · simp at h
end transomref12_SameLines
namespace transomref12_Same
abbrev G : Type := ByteArray → Int → (List D_api_Col) → (List D_api_Line) → ByteArray → Int → (List D_api_Col) → (List D_api_Line) → Option Bool
def ct (g : G) : Ct where
  nin := 0
  mv := []
  F := fun tvs blks {β} K => match tvs, blks with
    | [.v (.agg [(.d .str a0), (.d (.int .i64) a1), (.d (.sl (.pair .str (.pair (.int .i64) (.pair .bool (.pair (.pair (.int .i64) (.pair (.int .i64) (.pair (.int .u64) (.pair .str .unit)))) .unit))))) a2), (.d (.sl (.pair .str (.pair (.sl (.pair (.int .i64) (.pair (.int .i64) (.pair (.int .u64) (.pair .str .unit))))) .unit))) a3)]), .v (.agg [(.d .str a4), (.d (.int .i64) a5), (.d (.sl (.pair .str (.pair (.int .i64) (.pair .bool (.pair (.pair (.int .i64) (.pair (.int .i64) (.pair (.int .u64) (.pair .str .unit)))) .unit))))) a6), (.d (.sl (.pair .str (.pair (.sl (.pair (.int .i64) (.pair (.int .i64) (.pair (.int .u64) (.pair .str .unit))))) .unit))) a7)])], [] => (g a0 a1 a2 a3 a4 a5 a6 a7).bind fun r => K ⟨.v (.one (.d .bool r)), []⟩
    | _, _ => none
  legit := fun _ _ K _ h => by split at h; exact (legit1 K h :); simp at h
noncomputable def env (g27 : transomref09_Same.G) (g28 : transomref12_SameLines.G)  : FEnv := { P := prog, ct := fun m => if m = 27 then some (transomref09_Same.ct g27) else if m = 28 then some (transomref12_SameLines.ct g28) else none, N := 17, body := f14.body.getD .skip, rvs := [.tmp 4], rts := [4], nin := 0, rmv := [], segs := [] }
def c {β : Type} (g27 : transomref09_Same.G) (g28 : transomref12_SameLines.G)  (a0 : ByteArray) (a1 : Int) (a2 : List D_api_Col) (a3 : List D_api_Line) (a4 : ByteArray) (a5 : Int) (a6 : List D_api_Col) (a7 : List D_api_Line) (ret : Bool → Option β) : Option β := ((g27 a0 a1 a2 a4 a5 a6).bind fun r0 => (bif r0 then ((g28 a3 a7).bind fun r1 => (ret (r1))) else (ret (false))))
theorem c_bind {β : Type} {g27 : transomref09_Same.G} {g28 : transomref12_SameLines.G}  {a0 : ByteArray} {a1 : Int} {a2 : List D_api_Col} {a3 : List D_api_Line} {a4 : ByteArray} {a5 : Int} {a6 : List D_api_Col} {a7 : List D_api_Line} {ret : Bool → Option β} : c g27 g28  a0 a1 a2 a3 a4 a5 a6 a7 ret = (c g27 g28  a0 a1 a2 a3 a4 a5 a6 a7 some).bind ret := by
  simp only [c, bif_bind, sum_bind, oa, os, on, ofs]
theorem ev {g27 : transomref09_Same.G} {g28 : transomref12_SameLines.G}  {a0 : ByteArray} {a1 : Int} {a2 : List D_api_Col} {a3 : List D_api_Line} {a4 : ByteArray} {a5 : Int} {a6 : List D_api_Col} {a7 : List D_api_Line} : evAt (env g27 g28 ) [] [0, 1] [.v (.agg [(.d .str a0), (.d (.int .i64) a1), (.d (.sl T_api_Col) a2), (.d (.sl T_api_Line) a3)]), .v (.agg [(.d .str a4), (.d (.int .i64) a5), (.d (.sl T_api_Col) a6), (.d (.sl T_api_Line) a7)])] [] some = c g27 g28  a0 a1 a2 a3 a4 a5 a6 a7 (fun r => some ⟨.v (.one (.d .bool r)), []⟩) := by
  kernel_rfl
def f (k : Nat) (a0 : ByteArray) (a1 : Int) (a2 : List D_api_Col) (a3 : List D_api_Line) (a4 : ByteArray) (a5 : Int) (a6 : List D_api_Col) (a7 : List D_api_Line) : Option Bool := c (transomref09_Same.f k) (transomref12_SameLines.f k)  a0 a1 a2 a3 a4 a5 a6 a7 some
theorem is {g27 : transomref09_Same.G} {g28 : transomref12_SameLines.G}  : FnIs (env g27 g28 ) 14 f14 := ⟨func14, rfl, rfl, rfl, by decide⟩
theorem envok {g27 : transomref09_Same.G} {g28 : transomref12_SameLines.G}  (h27 : CtOK prog 27 (transomref09_Same.ct g27)) (h28 : CtOK prog 28 (transomref12_SameLines.ct g28)) : EnvOK (env g27 g28 ).toEnv := by
  intro f c h
  simp only [env] at h
  split at h
  · rename_i e; subst e; cases h; exact h27
  split at h
  · rename_i e; subst e; cases h; exact h28
  simp at h
noncomputable abbrev E (k : Nat) : FEnv := env (transomref09_Same.f k) (transomref12_SameLines.f k) 
theorem hE (k : Nat) : EnvOK (E k).toEnv := envok (transomref09_Same.ok k) (transomref12_SameLines.ok k)
theorem ok (k : Nat) : CtOK prog 14 (ct (f k)) := by
  refine ct_of_ev (E := E k) is (hE k) (fun s hs => by simp [E, env] at hs) rfl ?_
  intro tvs blks res h
  simp only [ct] at h
  split at h
  · exact (ev.trans c_bind).trans h
  · simp at h
end transomref12_Same
end Go.Proofs.YtdbbkmmillnaiaaGreatDoor.Aev
