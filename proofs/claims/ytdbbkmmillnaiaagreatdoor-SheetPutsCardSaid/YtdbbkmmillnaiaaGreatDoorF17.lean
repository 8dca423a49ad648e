/- By a program of this session (AEV): functions of the program as plain functions, and that the machine does what they say. -/
import Derived.Test.YtdbbkmmillnaiaaGreatDoorTys
import Derived.Test.YtdbbkmmillnaiaaGreatDoorProg
import Derived.Laws.Externs
import Derived.Lib.Bytealg
import Derived.Test.YtdbbkmmillnaiaaGreatDoorF0
import Derived.Test.YtdbbkmmillnaiaaGreatDoorF1
import Derived.Test.YtdbbkmmillnaiaaGreatDoorF7
import Derived.Test.YtdbbkmmillnaiaaGreatDoorF9
import Derived.Test.YtdbbkmmillnaiaaGreatDoorF15
import Derived.Test.YtdbbkmmillnaiaaGreatDoorF16
namespace Go.Proofs.YtdbbkmmillnaiaaGreatDoor.Aev
set_option linter.unusedVariables false
set_option linter.unusedSimpArgs false
set_option maxRecDepth 100000
set_option maxHeartbeats 4000000
open Go Go.Proofs.Tryz
namespace transomlaw12_SheetPuts
abbrev G : Type := ByteArray → Int → (List D_api_Col) → (List D_api_Line) → (List D_api_Value) → ByteArray → Option Bool
def ct (g : G) : Ct where
  nin := 0
  mv := []
  F := fun tvs blks {β} K => match tvs, blks with
    | [.v (.agg [(.d .str a0), (.d (.int .i64) a1), (.d (.sl (.pair .str (.pair (.int .i64) (.pair .bool (.pair (.pair (.int .i64) (.pair (.int .i64) (.pair (.int .u64) (.pair .str .unit)))) .unit))))) a2), (.d (.sl (.pair .str (.pair (.sl (.pair (.int .i64) (.pair (.int .i64) (.pair (.int .u64) (.pair .str .unit))))) .unit))) a3)]), .v (.one (.d (.sl (.pair (.int .i64) (.pair (.int .i64) (.pair (.int .u64) (.pair .str .unit))))) a4)), .v (.one (.d .str a5))], [] => (g a0 a1 a2 a3 a4 a5).bind fun r => K ⟨.v (.one (.d .bool r)), []⟩
    | _, _ => none
  legit := fun _ _ K _ h => by split at h; exact (legit1 K h :); simp at h
abbrev S0 : Type := (List D_api_Value) → ByteArray → Bool → ByteArray → Int → (List D_api_Col) → (List D_api_Line) → Option Bool
abbrev S1 : Type := (List D_api_Value) → ByteArray → ByteArray → Int → (List D_api_Col) → (List D_api_Line) → Option Bool
def sg0 (g : S0) : Seg where
  path := [1, 0, 1]
  prep := []
  keep := [1, 2, 3, 38]
  F := fun tvs blks {β} K => match tvs, blks with
    | [.v (.one (.d (.sl (.pair (.int .i64) (.pair (.int .i64) (.pair (.int .u64) (.pair .str .unit))))) x0)), .v (.one (.d .str x1)), .v (.one (.ptr 0 0)), .v (.one (.d .bool x2))], [some (.box [(.d .str x3), (.d (.int .i64) x4), (.d (.sl (.pair .str (.pair (.int .i64) (.pair .bool (.pair (.pair (.int .i64) (.pair (.int .i64) (.pair (.int .u64) (.pair .str .unit)))) .unit))))) x5), (.d (.sl (.pair .str (.pair (.sl (.pair (.int .i64) (.pair (.int .i64) (.pair (.int .u64) (.pair .str .unit))))) .unit))) x6)])] => (g x0 x1 x2 x3 x4 x5 x6).bind fun r => K ⟨.v (.one (.d .bool r)), []⟩
    | _, _ => none
  legit := fun _ _ K _ h => by split at h; exact (legit1 K h :); simp at h
def sg1 (g : S1) : Seg where
  path := [1, 1]
  prep := []
  keep := [1, 2, 3]
  F := fun tvs blks {β} K => match tvs, blks with
    | [.v (.one (.d (.sl (.pair (.int .i64) (.pair (.int .i64) (.pair (.int .u64) (.pair .str .unit))))) x0)), .v (.one (.d .str x1)), .v (.one (.ptr 0 0))], [some (.box [(.d .str x2), (.d (.int .i64) x3), (.d (.sl (.pair .str (.pair (.int .i64) (.pair .bool (.pair (.pair (.int .i64) (.pair (.int .i64) (.pair (.int .u64) (.pair .str .unit)))) .unit))))) x4), (.d (.sl (.pair .str (.pair (.sl (.pair (.int .i64) (.pair (.int .i64) (.pair (.int .u64) (.pair .str .unit))))) .unit))) x5)])] => (g x0 x1 x2 x3 x4 x5).bind fun r => K ⟨.v (.one (.d .bool r)), []⟩
    | _, _ => none
  legit := fun _ _ K _ h => by split at h; exact (legit1 K h :); simp at h
noncomputable def env (g4 : transomlaw12_Few.G) (g5 : transomlaw12_Rises.G) (g6 : transomlaw05_Few.G) (g7 : transomlaw12_awake.G) (g8 : sheet_Put.G) (g9 : transomref12_Put.G) (g10 : sheet_Delete.G) (g11 : transomref12_Delete.G) (g12 : sheet_Find.G) (g13 : transomref12_Find.G) (g14 : transomref12_Same.G) (s0 : S0) (s1 : S1) : FEnv := { P := prog, ct := fun m => if m = 4 then some (transomlaw12_Few.ct g4) else if m = 5 then some (transomlaw12_Rises.ct g5) else if m = 6 then some (transomlaw05_Few.ct g6) else if m = 7 then some (transomlaw12_awake.ct g7) else if m = 8 then some (sheet_Put.ct g8) else if m = 9 then some (transomref12_Put.ct g9) else if m = 10 then some (sheet_Delete.ct g10) else if m = 11 then some (transomref12_Delete.ct g11) else if m = 12 then some (sheet_Find.ct g12) else if m = 13 then some (transomref12_Find.ct g13) else if m = 14 then some (transomref12_Same.ct g14) else none, N := 114, body := f3.body.getD .skip, rvs := [.tmp 6], rts := [4], nin := 0, rmv := [], segs := [sg0 s0, sg1 s1] }
def c {β : Type} (g4 : transomlaw12_Few.G) (g5 : transomlaw12_Rises.G) (g6 : transomlaw05_Few.G) (g7 : transomlaw12_awake.G) (g8 : sheet_Put.G) (g9 : transomref12_Put.G) (g10 : sheet_Delete.G) (g11 : transomref12_Delete.G) (g12 : sheet_Find.G) (g13 : transomref12_Find.G) (g14 : transomref12_Same.G) (s0 : S0) (s1 : S1) (a0 : ByteArray) (a1 : Int) (a2 : List D_api_Col) (a3 : List D_api_Line) (a4 : List D_api_Value) (a5 : ByteArray) (ret : Bool → Option β) : Option β := ((g4 a0 a1 a2 a3).bind fun r0 => (bif (r0 == (0 : Int)) then ((s0 a4 a5 true a0 a1 a2 a3).bind ret) else ((g5 a0 a1 a2 a3).bind fun r1 => (bif (r1 == (0 : Int)) then ((s0 a4 a5 true a0 a1 a2 a3).bind ret) else ((g6 a4).bind fun r2 => (bif (r2 == (0 : Int)) then ((s0 a4 a5 true a0 a1 a2 a3).bind ret) else ((s0 a4 a5 (decide (((ByteArray.size a5) : Int) > (2000 : Int))) a0 a1 a2 a3).bind ret)))))))
def s0c {β : Type} (g4 : transomlaw12_Few.G) (g5 : transomlaw12_Rises.G) (g6 : transomlaw05_Few.G) (g7 : transomlaw12_awake.G) (g8 : sheet_Put.G) (g9 : transomref12_Put.G) (g10 : sheet_Delete.G) (g11 : transomref12_Delete.G) (g12 : sheet_Find.G) (g13 : transomref12_Find.G) (g14 : transomref12_Same.G) (s0 : S0) (s1 : S1) (x0 : List D_api_Value) (x1 : ByteArray) (x2 : Bool) (x3 : ByteArray) (x4 : Int) (x5 : List D_api_Col) (x6 : List D_api_Line) (ret : Bool → Option β) : Option β := (bif x2 then (g7.bind fun r0 => (ret (r0))) else ((s1 x0 x1 x3 x4 x5 x6).bind ret))
def s1c {β : Type} (g4 : transomlaw12_Few.G) (g5 : transomlaw12_Rises.G) (g6 : transomlaw05_Few.G) (g7 : transomlaw12_awake.G) (g8 : sheet_Put.G) (g9 : transomref12_Put.G) (g10 : sheet_Delete.G) (g11 : transomref12_Delete.G) (g12 : sheet_Find.G) (g13 : transomref12_Find.G) (g14 : transomref12_Same.G) (s0 : S0) (s1 : S1) (x0 : List D_api_Value) (x1 : ByteArray) (x2 : ByteArray) (x3 : Int) (x4 : List D_api_Col) (x5 : List D_api_Line) (ret : Bool → Option β) : Option β := ((g8 x2 x3 x4 x5 x0).bind fun r0 => ((g9 x2 x3 x4 x5 x0).bind fun r1 => ((g10 x2 x3 x4 x5 x1).bind fun r2 => ((g11 x2 x3 x4 x5 x1).bind fun r3 => ((g12 x2 x3 x4 x5 x1).bind fun r4 => ((g13 x2 x3 x4 x5 x1).bind fun r5 => ((g14 r0.1 r0.2.1 r0.2.2.1 r0.2.2.2.1 r1.1 r1.2.1 r1.2.2.1 r1.2.2.2.1).bind fun r6 => (bif r6 then (bif (r0.2.2.2.2.1 == r1.2.2.2.2.1) then (bif (r0.2.2.2.2.2 == r1.2.2.2.2.2) then ((g14 r2.1 r2.2.1 r2.2.2.1 r2.2.2.2.1 r3.1 r3.2.1 r3.2.2.1 r3.2.2.2.1).bind fun r7 => (bif r7 then (bif (r2.2.2.2.2 == r3.2.2.2.2) then (bif (r4.1 == r5.1) then (bif (r4.2 == r5.2) then (g7.bind fun r8 => (ret (r8))) else (ret (false))) else (ret (false))) else (ret (false))) else (ret (false)))) else (ret (false))) else (ret (false))) else (ret (false))))))))))
theorem c_bind {β : Type} {g4 : transomlaw12_Few.G} {g5 : transomlaw12_Rises.G} {g6 : transomlaw05_Few.G} {g7 : transomlaw12_awake.G} {g8 : sheet_Put.G} {g9 : transomref12_Put.G} {g10 : sheet_Delete.G} {g11 : transomref12_Delete.G} {g12 : sheet_Find.G} {g13 : transomref12_Find.G} {g14 : transomref12_Same.G} {s0 : S0} {s1 : S1} {a0 : ByteArray} {a1 : Int} {a2 : List D_api_Col} {a3 : List D_api_Line} {a4 : List D_api_Value} {a5 : ByteArray} {ret : Bool → Option β} : c g4 g5 g6 g7 g8 g9 g10 g11 g12 g13 g14 s0 s1 a0 a1 a2 a3 a4 a5 ret = (c g4 g5 g6 g7 g8 g9 g10 g11 g12 g13 g14 s0 s1 a0 a1 a2 a3 a4 a5 some).bind ret := by
  simp only [c, bif_bind, sum_bind, oa, os, on, ofs]
theorem s0c_bind {β : Type} {g4 : transomlaw12_Few.G} {g5 : transomlaw12_Rises.G} {g6 : transomlaw05_Few.G} {g7 : transomlaw12_awake.G} {g8 : sheet_Put.G} {g9 : transomref12_Put.G} {g10 : sheet_Delete.G} {g11 : transomref12_Delete.G} {g12 : sheet_Find.G} {g13 : transomref12_Find.G} {g14 : transomref12_Same.G} {s0 : S0} {s1 : S1} {x0 : List D_api_Value} {x1 : ByteArray} {x2 : Bool} {x3 : ByteArray} {x4 : Int} {x5 : List D_api_Col} {x6 : List D_api_Line} {ret : Bool → Option β} : s0c g4 g5 g6 g7 g8 g9 g10 g11 g12 g13 g14 s0 s1 x0 x1 x2 x3 x4 x5 x6 ret = (s0c g4 g5 g6 g7 g8 g9 g10 g11 g12 g13 g14 s0 s1 x0 x1 x2 x3 x4 x5 x6 some).bind ret := by
  simp only [s0c, bif_bind, sum_bind, oa, os, on, ofs]
theorem s1c_bind {β : Type} {g4 : transomlaw12_Few.G} {g5 : transomlaw12_Rises.G} {g6 : transomlaw05_Few.G} {g7 : transomlaw12_awake.G} {g8 : sheet_Put.G} {g9 : transomref12_Put.G} {g10 : sheet_Delete.G} {g11 : transomref12_Delete.G} {g12 : sheet_Find.G} {g13 : transomref12_Find.G} {g14 : transomref12_Same.G} {s0 : S0} {s1 : S1} {x0 : List D_api_Value} {x1 : ByteArray} {x2 : ByteArray} {x3 : Int} {x4 : List D_api_Col} {x5 : List D_api_Line} {ret : Bool → Option β} : s1c g4 g5 g6 g7 g8 g9 g10 g11 g12 g13 g14 s0 s1 x0 x1 x2 x3 x4 x5 ret = (s1c g4 g5 g6 g7 g8 g9 g10 g11 g12 g13 g14 s0 s1 x0 x1 x2 x3 x4 x5 some).bind ret := by
  simp only [s1c, bif_bind, sum_bind, oa, os, on, ofs]
theorem ev {g4 : transomlaw12_Few.G} {g5 : transomlaw12_Rises.G} {g6 : transomlaw05_Few.G} {g7 : transomlaw12_awake.G} {g8 : sheet_Put.G} {g9 : transomref12_Put.G} {g10 : sheet_Delete.G} {g11 : transomref12_Delete.G} {g12 : sheet_Find.G} {g13 : transomref12_Find.G} {g14 : transomref12_Same.G} {s0 : S0} {s1 : S1} {a0 : ByteArray} {a1 : Int} {a2 : List D_api_Col} {a3 : List D_api_Line} {a4 : List D_api_Value} {a5 : ByteArray} : evAt (env g4 g5 g6 g7 g8 g9 g10 g11 g12 g13 g14 s0 s1) [] [0, 1, 2] [.v (.agg [(.d .str a0), (.d (.int .i64) a1), (.d (.sl T_api_Col) a2), (.d (.sl T_api_Line) a3)]), .v (.one (.d (.sl T_api_Value) a4)), .v (.one (.d .str a5))] [] some = c g4 g5 g6 g7 g8 g9 g10 g11 g12 g13 g14 s0 s1 a0 a1 a2 a3 a4 a5 (fun r => some ⟨.v (.one (.d .bool r)), []⟩) := by
  kernel_rfl
theorem s0_ev {g4 : transomlaw12_Few.G} {g5 : transomlaw12_Rises.G} {g6 : transomlaw05_Few.G} {g7 : transomlaw12_awake.G} {g8 : sheet_Put.G} {g9 : transomref12_Put.G} {g10 : sheet_Delete.G} {g11 : transomref12_Delete.G} {g12 : sheet_Find.G} {g13 : transomref12_Find.G} {g14 : transomref12_Same.G} {s0 : S0} {s1 : S1} {x0 : List D_api_Value} {x1 : ByteArray} {x2 : Bool} {x3 : ByteArray} {x4 : Int} {x5 : List D_api_Col} {x6 : List D_api_Line} : evAt (env g4 g5 g6 g7 g8 g9 g10 g11 g12 g13 g14 s0 s1) [1, 0, 1] [1, 2, 3, 38] [.v (.one (.d (.sl T_api_Value) x0)), .v (.one (.d .str x1)), .v (.one (.ptr 0 0)), .v (.one (.d .bool x2))] [some (.box [(.d .str x3), (.d (.int .i64) x4), (.d (.sl T_api_Col) x5), (.d (.sl T_api_Line) x6)])] some = s0c g4 g5 g6 g7 g8 g9 g10 g11 g12 g13 g14 s0 s1 x0 x1 x2 x3 x4 x5 x6 (fun r => some ⟨.v (.one (.d .bool r)), []⟩) := by
  kernel_rfl
theorem s1_ev {g4 : transomlaw12_Few.G} {g5 : transomlaw12_Rises.G} {g6 : transomlaw05_Few.G} {g7 : transomlaw12_awake.G} {g8 : sheet_Put.G} {g9 : transomref12_Put.G} {g10 : sheet_Delete.G} {g11 : transomref12_Delete.G} {g12 : sheet_Find.G} {g13 : transomref12_Find.G} {g14 : transomref12_Same.G} {s0 : S0} {s1 : S1} {x0 : List D_api_Value} {x1 : ByteArray} {x2 : ByteArray} {x3 : Int} {x4 : List D_api_Col} {x5 : List D_api_Line} : evAt (env g4 g5 g6 g7 g8 g9 g10 g11 g12 g13 g14 s0 s1) [1, 1] [1, 2, 3] [.v (.one (.d (.sl T_api_Value) x0)), .v (.one (.d .str x1)), .v (.one (.ptr 0 0))] [some (.box [(.d .str x2), (.d (.int .i64) x3), (.d (.sl T_api_Col) x4), (.d (.sl T_api_Line) x5)])] some = s1c g4 g5 g6 g7 g8 g9 g10 g11 g12 g13 g14 s0 s1 x0 x1 x2 x3 x4 x5 (fun r => some ⟨.v (.one (.d .bool r)), []⟩) := by
  kernel_rfl
mutual
def s0 : Nat → (List D_api_Value) → ByteArray → Bool → ByteArray → Int → (List D_api_Col) → (List D_api_Line) → Option Bool
  | 0, _, _, _, _, _, _, _ => none
  | k + 1, x0, x1, x2, x3, x4, x5, x6 => s0c (transomlaw12_Few.f k) (transomlaw12_Rises.f k) (transomlaw05_Few.f k) (transomlaw12_awake.f k) (sheet_Put.f k) (transomref12_Put.f k) (sheet_Delete.f k) (transomref12_Delete.f k) (sheet_Find.f k) (transomref12_Find.f k) (transomref12_Same.f k) (s0 k) (s1 k) x0 x1 x2 x3 x4 x5 x6 some
def s1 : Nat → (List D_api_Value) → ByteArray → ByteArray → Int → (List D_api_Col) → (List D_api_Line) → Option Bool
  | 0, _, _, _, _, _, _ => none
  | k + 1, x0, x1, x2, x3, x4, x5 => s1c (transomlaw12_Few.f k) (transomlaw12_Rises.f k) (transomlaw05_Few.f k) (transomlaw12_awake.f k) (sheet_Put.f k) (transomref12_Put.f k) (sheet_Delete.f k) (transomref12_Delete.f k) (sheet_Find.f k) (transomref12_Find.f k) (transomref12_Same.f k) (s0 k) (s1 k) x0 x1 x2 x3 x4 x5 some
end
def f (k : Nat) (a0 : ByteArray) (a1 : Int) (a2 : List D_api_Col) (a3 : List D_api_Line) (a4 : List D_api_Value) (a5 : ByteArray) : Option Bool := c (transomlaw12_Few.f k) (transomlaw12_Rises.f k) (transomlaw05_Few.f k) (transomlaw12_awake.f k) (sheet_Put.f k) (transomref12_Put.f k) (sheet_Delete.f k) (transomref12_Delete.f k) (sheet_Find.f k) (transomref12_Find.f k) (transomref12_Same.f k) (s0 k) (s1 k) a0 a1 a2 a3 a4 a5 some
theorem is {g4 : transomlaw12_Few.G} {g5 : transomlaw12_Rises.G} {g6 : transomlaw05_Few.G} {g7 : transomlaw12_awake.G} {g8 : sheet_Put.G} {g9 : transomref12_Put.G} {g10 : sheet_Delete.G} {g11 : transomref12_Delete.G} {g12 : sheet_Find.G} {g13 : transomref12_Find.G} {g14 : transomref12_Same.G} {s0 : S0} {s1 : S1} : FnIs (env g4 g5 g6 g7 g8 g9 g10 g11 g12 g13 g14 s0 s1) 3 f3 := ⟨func3, rfl, rfl, rfl, by decide⟩
theorem envok {g4 : transomlaw12_Few.G} {g5 : transomlaw12_Rises.G} {g6 : transomlaw05_Few.G} {g7 : transomlaw12_awake.G} {g8 : sheet_Put.G} {g9 : transomref12_Put.G} {g10 : sheet_Delete.G} {g11 : transomref12_Delete.G} {g12 : sheet_Find.G} {g13 : transomref12_Find.G} {g14 : transomref12_Same.G} {s0 : S0} {s1 : S1} (h4 : CtOK prog 4 (transomlaw12_Few.ct g4)) (h5 : CtOK prog 5 (transomlaw12_Rises.ct g5)) (h6 : CtOK prog 6 (transomlaw05_Few.ct g6)) (h7 : CtOK prog 7 (transomlaw12_awake.ct g7)) (h8 : CtOK prog 8 (sheet_Put.ct g8)) (h9 : CtOK prog 9 (transomref12_Put.ct g9)) (h10 : CtOK prog 10 (sheet_Delete.ct g10)) (h11 : CtOK prog 11 (transomref12_Delete.ct g11)) (h12 : CtOK prog 12 (sheet_Find.ct g12)) (h13 : CtOK prog 13 (transomref12_Find.ct g13)) (h14 : CtOK prog 14 (transomref12_Same.ct g14)) : EnvOK (env g4 g5 g6 g7 g8 g9 g10 g11 g12 g13 g14 s0 s1).toEnv := by
  intro f c h
  simp only [env] at h
  split at h
  · rename_i e; subst e; cases h; exact h4
  split at h
  · rename_i e; subst e; cases h; exact h5
  split at h
  · rename_i e; subst e; cases h; exact h6
  split at h
  · rename_i e; subst e; cases h; exact h7
  split at h
  · rename_i e; subst e; cases h; exact h8
  split at h
  · rename_i e; subst e; cases h; exact h9
  split at h
  · rename_i e; subst e; cases h; exact h10
  split at h
  · rename_i e; subst e; cases h; exact h11
  split at h
  · rename_i e; subst e; cases h; exact h12
  split at h
  · rename_i e; subst e; cases h; exact h13
  split at h
  · rename_i e; subst e; cases h; exact h14
  simp at h
noncomputable abbrev E (k : Nat) : FEnv := env (transomlaw12_Few.f k) (transomlaw12_Rises.f k) (transomlaw05_Few.f k) (transomlaw12_awake.f k) (sheet_Put.f k) (transomref12_Put.f k) (sheet_Delete.f k) (transomref12_Delete.f k) (sheet_Find.f k) (transomref12_Find.f k) (transomref12_Same.f k) (s0 k) (s1 k)
theorem hE (k : Nat) : EnvOK (E k).toEnv := envok (transomlaw12_Few.ok k) (transomlaw12_Rises.ok k) (transomlaw05_Few.ok k) (transomlaw12_awake.ok k) (sheet_Put.ok k) (transomref12_Put.ok k) (sheet_Delete.ok k) (transomref12_Delete.ok k) (sheet_Find.ok k) (transomref12_Find.ok k) (transomref12_Same.ok k)
theorem segs_ok : ∀ k, ∀ s ∈ (E k).segs, SegOK (E k) f3 s
  | 0 => by
    intro s hs
    simp only [E, env, List.mem_cons, List.not_mem_nil, or_false] at hs
    rcases hs with rfl | rfl
    · intro tvs blks res h; exfalso; simp only [sg0] at h; split at h <;> simp [s0] at h
    · intro tvs blks res h; exfalso; simp only [sg1] at h; split at h <;> simp [s1] at h
  | k + 1 => by
    intro s hs
    simp only [E, env, List.mem_cons, List.not_mem_nil, or_false] at hs
    rcases hs with rfl | rfl
    · refine seg_of_ev (E := E k) (hE k) ⟨is.rvs⟩ (segs_ok k) ?_
      intro tvs blks res h
      simp only [sg0] at h
      split at h
      · exact (s0_ev.trans s0c_bind).trans h
      · simp at h
    · refine seg_of_ev (E := E k) (hE k) ⟨is.rvs⟩ (segs_ok k) ?_
      intro tvs blks res h
      simp only [sg1] at h
      split at h
      · exact (s1_ev.trans s1c_bind).trans h
      · simp at h
theorem ok (k : Nat) : CtOK prog 3 (ct (f k)) := by
  refine ct_of_ev (E := E k) is (hE k) (segs_ok k) rfl ?_
  intro tvs blks res h
  simp only [ct] at h
  split at h
  · exact (ev.trans c_bind).trans h
  · simp at h
end transomlaw12_SheetPuts
end Go.Proofs.YtdbbkmmillnaiaaGreatDoor.Aev
