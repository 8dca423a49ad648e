/- By a program of this session (AEV): functions of the program as plain functions, and that the machine does what they say. -/
import Derived.Test.YtdbbkmmillnaiaaDoorTys
import Derived.Test.YtdbbkmmillnaiaaDoorProg
import Derived.Laws.Externs
import Derived.Lib.Bytealg
import Derived.Test.YtdbbkmmillnaiaaDoorF0
import Derived.Test.YtdbbkmmillnaiaaDoorF1
import Derived.Test.YtdbbkmmillnaiaaDoorF6
import Derived.Test.YtdbbkmmillnaiaaDoorF7
import Derived.Test.YtdbbkmmillnaiaaDoorF8
import Derived.Test.YtdbbkmmillnaiaaDoorF9
import Derived.Test.YtdbbkmmillnaiaaDoorF11
import Derived.Test.YtdbbkmmillnaiaaDoorF15
namespace Go.Proofs.YtdbbkmmillnaiaaDoor.Aev
set_option linter.unusedVariables false
set_option linter.unusedSimpArgs false
set_option maxRecDepth 100000
set_option maxHeartbeats 4000000
open Go Go.Proofs.Tryd
namespace transomlaw12_SheetBack
abbrev G : Type := ByteArray → Int → (List D_api_Col) → (List D_api_Line) → (List D_api_Value) → Option Bool
def ct (g : G) : Ct where
  nin := 0
  mv := []
  F := fun tvs blks {β} K => match tvs, blks with
    | [.v (.agg [(.d .str a0), (.d (.int .i64) a1), (.d (.sl (.pair .str (.pair (.int .i64) (.pair .bool (.pair (.pair (.int .i64) (.pair (.int .i64) (.pair (.int .u64) (.pair .str .unit)))) .unit))))) a2), (.d (.sl (.pair .str (.pair (.sl (.pair (.int .i64) (.pair (.int .i64) (.pair (.int .u64) (.pair .str .unit))))) .unit))) a3)]), .v (.one (.d (.sl (.pair (.int .i64) (.pair (.int .i64) (.pair (.int .u64) (.pair .str .unit))))) a4))], [] => (g a0 a1 a2 a3 a4).bind fun r => K ⟨.v (.one (.d .bool r)), []⟩
    | _, _ => none
  legit := fun _ _ K _ h => by split at h; exact (legit1 K h :); simp at h
abbrev S0 : Type := (List D_api_Value) → Bool → ByteArray → Int → (List D_api_Col) → (List D_api_Line) → Option Bool
abbrev S1 : Type := (List D_api_Value) → ByteArray → Int → (List D_api_Col) → (List D_api_Line) → Option Bool
abbrev S2 : Type := Bool → Option Bool
abbrev S3 : Type := Bool → ByteArray → Bool → ByteArray → Int → (List D_api_Col) → (List D_api_Line) → ByteArray → Int → (List D_api_Col) → (List D_api_Line) → Option Bool
abbrev S4 : Type := Bool → ByteArray → ByteArray → Int → (List D_api_Col) → (List D_api_Line) → ByteArray → Int → (List D_api_Col) → (List D_api_Line) → Option Bool
def sg0 (g : S0) : Seg where
  path := [1, 0, 1]
  prep := []
  keep := [1, 2, 26]
  F := fun tvs blks {β} K => match tvs, blks with
    | [.v (.one (.d (.sl (.pair (.int .i64) (.pair (.int .i64) (.pair (.int .u64) (.pair .str .unit))))) x0)), .v (.one (.ptr 0 0)), .v (.one (.d .bool x1))], [some (.box [(.d .str x2), (.d (.int .i64) x3), (.d (.sl (.pair .str (.pair (.int .i64) (.pair .bool (.pair (.pair (.int .i64) (.pair (.int .i64) (.pair (.int .u64) (.pair .str .unit)))) .unit))))) x4), (.d (.sl (.pair .str (.pair (.sl (.pair (.int .i64) (.pair (.int .i64) (.pair (.int .u64) (.pair .str .unit))))) .unit))) x5)])] => (g x0 x1 x2 x3 x4 x5).bind fun r => K ⟨.v (.one (.d .bool r)), []⟩
    | _, _ => none
  legit := fun _ _ K _ h => by split at h; exact (legit1 K h :); simp at h
def sg1 (g : S1) : Seg where
  path := [1, 1]
  prep := []
  keep := [1, 2]
  F := fun tvs blks {β} K => match tvs, blks with
    | [.v (.one (.d (.sl (.pair (.int .i64) (.pair (.int .i64) (.pair (.int .u64) (.pair .str .unit))))) x0)), .v (.one (.ptr 0 0))], [some (.box [(.d .str x1), (.d (.int .i64) x2), (.d (.sl (.pair .str (.pair (.int .i64) (.pair .bool (.pair (.pair (.int .i64) (.pair (.int .i64) (.pair (.int .u64) (.pair .str .unit)))) .unit))))) x3), (.d (.sl (.pair .str (.pair (.sl (.pair (.int .i64) (.pair (.int .i64) (.pair (.int .u64) (.pair .str .unit))))) .unit))) x4)])] => (g x0 x1 x2 x3 x4).bind fun r => K ⟨.v (.one (.d .bool r)), []⟩
    | _, _ => none
  legit := fun _ _ K _ h => by split at h; exact (legit1 K h :); simp at h
def sg2 (g : S2) : Seg where
  path := [1, 2, 1, 0, 1, 1, 1]
  prep := []
  keep := [4]
  F := fun tvs blks {β} K => match tvs, blks with
    | [.v (.one (.d .bool x0))], [] => (g x0).bind fun r => K ⟨.v (.one (.d .bool r)), []⟩
    | _, _ => none
  legit := fun _ _ K _ h => by split at h; exact (legit1 K h :); simp at h
def sg3 (g : S3) : Seg where
  path := [1, 0, 1, 1, 1, 1, 1, 1]
  prep := []
  keep := [2, 5, 6, 8, 84]
  F := fun tvs blks {β} K => match tvs, blks with
    | [.v (.one (.ptr 0 0)), .v (.one (.ptr 1 0)), .v (.one (.d .bool x0)), .v (.one (.d .str x1)), .v (.one (.d .bool x2))], [some (.box [(.d .str x3), (.d (.int .i64) x4), (.d (.sl (.pair .str (.pair (.int .i64) (.pair .bool (.pair (.pair (.int .i64) (.pair (.int .i64) (.pair (.int .u64) (.pair .str .unit)))) .unit))))) x5), (.d (.sl (.pair .str (.pair (.sl (.pair (.int .i64) (.pair (.int .i64) (.pair (.int .u64) (.pair .str .unit))))) .unit))) x6)]), some (.box [(.d .str x7), (.d (.int .i64) x8), (.d (.sl (.pair .str (.pair (.int .i64) (.pair .bool (.pair (.pair (.int .i64) (.pair (.int .i64) (.pair (.int .u64) (.pair .str .unit)))) .unit))))) x9), (.d (.sl (.pair .str (.pair (.sl (.pair (.int .i64) (.pair (.int .i64) (.pair (.int .u64) (.pair .str .unit))))) .unit))) x10)])] => (g x0 x1 x2 x3 x4 x5 x6 x7 x8 x9 x10).bind fun r => K ⟨.v (.one (.d .bool r)), []⟩
    | _, _ => none
  legit := fun _ _ K _ h => by split at h; exact (legit1 K h :); simp at h
def sg4 (g : S4) : Seg where
  path := [1, 1, 1, 1, 1, 1, 1]
  prep := []
  keep := [2, 5, 6, 8]
  F := fun tvs blks {β} K => match tvs, blks with
    | [.v (.one (.ptr 0 0)), .v (.one (.ptr 1 0)), .v (.one (.d .bool x0)), .v (.one (.d .str x1))], [some (.box [(.d .str x2), (.d (.int .i64) x3), (.d (.sl (.pair .str (.pair (.int .i64) (.pair .bool (.pair (.pair (.int .i64) (.pair (.int .i64) (.pair (.int .u64) (.pair .str .unit)))) .unit))))) x4), (.d (.sl (.pair .str (.pair (.sl (.pair (.int .i64) (.pair (.int .i64) (.pair (.int .u64) (.pair .str .unit))))) .unit))) x5)]), some (.box [(.d .str x6), (.d (.int .i64) x7), (.d (.sl (.pair .str (.pair (.int .i64) (.pair .bool (.pair (.pair (.int .i64) (.pair (.int .i64) (.pair (.int .u64) (.pair .str .unit)))) .unit))))) x8), (.d (.sl (.pair .str (.pair (.sl (.pair (.int .i64) (.pair (.int .i64) (.pair (.int .u64) (.pair .str .unit))))) .unit))) x9)])] => (g x0 x1 x2 x3 x4 x5 x6 x7 x8 x9).bind fun r => K ⟨.v (.one (.d .bool r)), []⟩
    | _, _ => none
  legit := fun _ _ K _ h => by split at h; exact (legit1 K h :); simp at h
noncomputable def env (g7 : transomlaw12_Few.G) (g8 : sheet_Check.G) (g10 : transomlaw12_awake.G) (g18 : transomlaw05_Few.G) (g19 : sheet_Put.G) (g20 : transomref12_Same.G) (g21 : schema_Key.G) (g22 : sheet_Find.G) (g23 : transomref06_Same.G) (g24 : sheet_Delete.G) (s0 : S0) (s1 : S1) (s2 : S2) (s3 : S3) (s4 : S4) : FEnv := { P := prog, ct := fun m => if m = 7 then some (transomlaw12_Few.ct g7) else if m = 8 then some (sheet_Check.ct g8) else if m = 10 then some (transomlaw12_awake.ct g10) else if m = 18 then some (transomlaw05_Few.ct g18) else if m = 19 then some (sheet_Put.ct g19) else if m = 20 then some (transomref12_Same.ct g20) else if m = 21 then some (schema_Key.ct g21) else if m = 22 then some (sheet_Find.ct g22) else if m = 23 then some (transomref06_Same.ct g23) else if m = 24 then some (sheet_Delete.ct g24) else none, N := 104, body := f6.body.getD .skip, rvs := [.tmp 4], rts := [4], nin := 0, rmv := [], segs := [sg0 s0, sg1 s1, sg2 s2, sg3 s3, sg4 s4] }
def c {β : Type} (g7 : transomlaw12_Few.G) (g8 : sheet_Check.G) (g10 : transomlaw12_awake.G) (g18 : transomlaw05_Few.G) (g19 : sheet_Put.G) (g20 : transomref12_Same.G) (g21 : schema_Key.G) (g22 : sheet_Find.G) (g23 : transomref06_Same.G) (g24 : sheet_Delete.G) (s0 : S0) (s1 : S1) (s2 : S2) (s3 : S3) (s4 : S4) (a0 : ByteArray) (a1 : Int) (a2 : List D_api_Col) (a3 : List D_api_Line) (a4 : List D_api_Value) (ret : Bool → Option β) : Option β := ((g7 a0 a1 a2 a3).bind fun r0 => (bif (r0 == (0 : Int)) then ((s0 a4 true a0 a1 a2 a3).bind ret) else ((g8 a0 a1 a2 a3).bind fun r1 => (bif (r1 != (0 : Int)) then ((s0 a4 true a0 a1 a2 a3).bind ret) else ((g18 a4).bind fun r2 => ((s0 a4 (r2 == (0 : Int)) a0 a1 a2 a3).bind ret))))))
def s0c {β : Type} (g7 : transomlaw12_Few.G) (g8 : sheet_Check.G) (g10 : transomlaw12_awake.G) (g18 : transomlaw05_Few.G) (g19 : sheet_Put.G) (g20 : transomref12_Same.G) (g21 : schema_Key.G) (g22 : sheet_Find.G) (g23 : transomref06_Same.G) (g24 : sheet_Delete.G) (s0 : S0) (s1 : S1) (s2 : S2) (s3 : S3) (s4 : S4) (x0 : List D_api_Value) (x1 : Bool) (x2 : ByteArray) (x3 : Int) (x4 : List D_api_Col) (x5 : List D_api_Line) (ret : Bool → Option β) : Option β := (bif x1 then (g10.bind fun r0 => (ret (r0))) else ((s1 x0 x2 x3 x4 x5).bind ret))
def s1c {β : Type} (g7 : transomlaw12_Few.G) (g8 : sheet_Check.G) (g10 : transomlaw12_awake.G) (g18 : transomlaw05_Few.G) (g19 : sheet_Put.G) (g20 : transomref12_Same.G) (g21 : schema_Key.G) (g22 : sheet_Find.G) (g23 : transomref06_Same.G) (g24 : sheet_Delete.G) (s0 : S0) (s1 : S1) (s2 : S2) (s3 : S3) (s4 : S4) (x0 : List D_api_Value) (x1 : ByteArray) (x2 : Int) (x3 : List D_api_Col) (x4 : List D_api_Line) (ret : Bool → Option β) : Option β := ((g19 x1 x2 x3 x4 x0).bind fun r0 => (bif (r0.2.2.2.2.2 != (0 : Int)) then ((g20 x1 x2 x3 x4 r0.1 r0.2.1 r0.2.2.1 r0.2.2.2.1).bind fun r1 => (bif r1 then (g10.bind fun r2 => ((s2 r2).bind ret)) else ((s2 false).bind ret))) else ((g21 x1 x2 x3 x0).bind fun r3 => ((g22 r0.1 r0.2.1 r0.2.2.1 r0.2.2.2.1 r3.1).bind fun r4 => ((g8 r0.1 r0.2.1 r0.2.2.1 r0.2.2.2.1).bind fun r5 => (bif (r5 != (0 : Int)) then ((s3 r0.2.2.2.2.1 r3.1 true x1 x2 x3 x4 r0.1 r0.2.1 r0.2.2.1 r0.2.2.2.1).bind ret) else (bif (!r4.2) then ((s3 r0.2.2.2.2.1 r3.1 true x1 x2 x3 x4 r0.1 r0.2.1 r0.2.2.1 r0.2.2.2.1).bind ret) else (bif (decide (r4.1 < (0 : Int))) then ((s3 r0.2.2.2.2.1 r3.1 true x1 x2 x3 x4 r0.1 r0.2.1 r0.2.2.1 r0.2.2.2.1).bind ret) else (bif (decide (r4.1 ≥ ((List.length r0.2.2.2.1) : Int))) then ((s3 r0.2.2.2.2.1 r3.1 true x1 x2 x3 x4 r0.1 r0.2.1 r0.2.2.1 r0.2.2.2.1).bind ret) else (bif ((decide ((0 : Int) ≤ r4.1)) && (decide (r4.1 < ((List.length r0.2.2.2.1) : Int)))) then ((g23 (elem T_api_Line r0.2.2.2.1 r4.1).2.1 x0).bind fun r6 => ((s3 r0.2.2.2.2.1 r3.1 (!r6) x1 x2 x3 x4 r0.1 r0.2.1 r0.2.2.1 r0.2.2.2.1).bind ret)) else none))))))))))
def s2c {β : Type} (g7 : transomlaw12_Few.G) (g8 : sheet_Check.G) (g10 : transomlaw12_awake.G) (g18 : transomlaw05_Few.G) (g19 : sheet_Put.G) (g20 : transomref12_Same.G) (g21 : schema_Key.G) (g22 : sheet_Find.G) (g23 : transomref06_Same.G) (g24 : sheet_Delete.G) (s0 : S0) (s1 : S1) (s2 : S2) (s3 : S3) (s4 : S4) (x0 : Bool) (ret : Bool → Option β) : Option β := (ret (x0))
def s3c {β : Type} (g7 : transomlaw12_Few.G) (g8 : sheet_Check.G) (g10 : transomlaw12_awake.G) (g18 : transomlaw05_Few.G) (g19 : sheet_Put.G) (g20 : transomref12_Same.G) (g21 : schema_Key.G) (g22 : sheet_Find.G) (g23 : transomref06_Same.G) (g24 : sheet_Delete.G) (s0 : S0) (s1 : S1) (s2 : S2) (s3 : S3) (s4 : S4) (x0 : Bool) (x1 : ByteArray) (x2 : Bool) (x3 : ByteArray) (x4 : Int) (x5 : List D_api_Col) (x6 : List D_api_Line) (x7 : ByteArray) (x8 : Int) (x9 : List D_api_Col) (x10 : List D_api_Line) (ret : Bool → Option β) : Option β := (bif x2 then (ret (false)) else ((s4 x0 x1 x3 x4 x5 x6 x7 x8 x9 x10).bind ret))
def s4c {β : Type} (g7 : transomlaw12_Few.G) (g8 : sheet_Check.G) (g10 : transomlaw12_awake.G) (g18 : transomlaw05_Few.G) (g19 : sheet_Put.G) (g20 : transomref12_Same.G) (g21 : schema_Key.G) (g22 : sheet_Find.G) (g23 : transomref06_Same.G) (g24 : sheet_Delete.G) (s0 : S0) (s1 : S1) (s2 : S2) (s3 : S3) (s4 : S4) (x0 : Bool) (x1 : ByteArray) (x2 : ByteArray) (x3 : Int) (x4 : List D_api_Col) (x5 : List D_api_Line) (x6 : ByteArray) (x7 : Int) (x8 : List D_api_Col) (x9 : List D_api_Line) (ret : Bool → Option β) : Option β := ((g24 x6 x7 x8 x9 x1).bind fun r0 => (bif r0.2.2.2.2 then (bif (!x0) then (g10.bind fun r1 => (ret (r1))) else ((g20 x2 x3 x4 x5 r0.1 r0.2.1 r0.2.2.1 r0.2.2.2.1).bind fun r2 => (bif r2 then (g10.bind fun r3 => (ret (r3))) else (ret (false))))) else (ret (false))))
theorem c_bind {β : Type} {g7 : transomlaw12_Few.G} {g8 : sheet_Check.G} {g10 : transomlaw12_awake.G} {g18 : transomlaw05_Few.G} {g19 : sheet_Put.G} {g20 : transomref12_Same.G} {g21 : schema_Key.G} {g22 : sheet_Find.G} {g23 : transomref06_Same.G} {g24 : sheet_Delete.G} {s0 : S0} {s1 : S1} {s2 : S2} {s3 : S3} {s4 : S4} {a0 : ByteArray} {a1 : Int} {a2 : List D_api_Col} {a3 : List D_api_Line} {a4 : List D_api_Value} {ret : Bool → Option β} : c g7 g8 g10 g18 g19 g20 g21 g22 g23 g24 s0 s1 s2 s3 s4 a0 a1 a2 a3 a4 ret = (c g7 g8 g10 g18 g19 g20 g21 g22 g23 g24 s0 s1 s2 s3 s4 a0 a1 a2 a3 a4 some).bind ret := by
  simp only [c, bif_bind, sum_bind, oa, os, on, ofs]
theorem s0c_bind {β : Type} {g7 : transomlaw12_Few.G} {g8 : sheet_Check.G} {g10 : transomlaw12_awake.G} {g18 : transomlaw05_Few.G} {g19 : sheet_Put.G} {g20 : transomref12_Same.G} {g21 : schema_Key.G} {g22 : sheet_Find.G} {g23 : transomref06_Same.G} {g24 : sheet_Delete.G} {s0 : S0} {s1 : S1} {s2 : S2} {s3 : S3} {s4 : S4} {x0 : List D_api_Value} {x1 : Bool} {x2 : ByteArray} {x3 : Int} {x4 : List D_api_Col} {x5 : List D_api_Line} {ret : Bool → Option β} : s0c g7 g8 g10 g18 g19 g20 g21 g22 g23 g24 s0 s1 s2 s3 s4 x0 x1 x2 x3 x4 x5 ret = (s0c g7 g8 g10 g18 g19 g20 g21 g22 g23 g24 s0 s1 s2 s3 s4 x0 x1 x2 x3 x4 x5 some).bind ret := by
  simp only [s0c, bif_bind, sum_bind, oa, os, on, ofs]
theorem s1c_bind {β : Type} {g7 : transomlaw12_Few.G} {g8 : sheet_Check.G} {g10 : transomlaw12_awake.G} {g18 : transomlaw05_Few.G} {g19 : sheet_Put.G} {g20 : transomref12_Same.G} {g21 : schema_Key.G} {g22 : sheet_Find.G} {g23 : transomref06_Same.G} {g24 : sheet_Delete.G} {s0 : S0} {s1 : S1} {s2 : S2} {s3 : S3} {s4 : S4} {x0 : List D_api_Value} {x1 : ByteArray} {x2 : Int} {x3 : List D_api_Col} {x4 : List D_api_Line} {ret : Bool → Option β} : s1c g7 g8 g10 g18 g19 g20 g21 g22 g23 g24 s0 s1 s2 s3 s4 x0 x1 x2 x3 x4 ret = (s1c g7 g8 g10 g18 g19 g20 g21 g22 g23 g24 s0 s1 s2 s3 s4 x0 x1 x2 x3 x4 some).bind ret := by
  simp only [s1c, bif_bind, sum_bind, oa, os, on, ofs]
theorem s2c_bind {β : Type} {g7 : transomlaw12_Few.G} {g8 : sheet_Check.G} {g10 : transomlaw12_awake.G} {g18 : transomlaw05_Few.G} {g19 : sheet_Put.G} {g20 : transomref12_Same.G} {g21 : schema_Key.G} {g22 : sheet_Find.G} {g23 : transomref06_Same.G} {g24 : sheet_Delete.G} {s0 : S0} {s1 : S1} {s2 : S2} {s3 : S3} {s4 : S4} {x0 : Bool} {ret : Bool → Option β} : s2c g7 g8 g10 g18 g19 g20 g21 g22 g23 g24 s0 s1 s2 s3 s4 x0 ret = (s2c g7 g8 g10 g18 g19 g20 g21 g22 g23 g24 s0 s1 s2 s3 s4 x0 some).bind ret := by
  simp only [s2c, bif_bind, sum_bind, oa, os, on, ofs]
theorem s3c_bind {β : Type} {g7 : transomlaw12_Few.G} {g8 : sheet_Check.G} {g10 : transomlaw12_awake.G} {g18 : transomlaw05_Few.G} {g19 : sheet_Put.G} {g20 : transomref12_Same.G} {g21 : schema_Key.G} {g22 : sheet_Find.G} {g23 : transomref06_Same.G} {g24 : sheet_Delete.G} {s0 : S0} {s1 : S1} {s2 : S2} {s3 : S3} {s4 : S4} {x0 : Bool} {x1 : ByteArray} {x2 : Bool} {x3 : ByteArray} {x4 : Int} {x5 : List D_api_Col} {x6 : List D_api_Line} {x7 : ByteArray} {x8 : Int} {x9 : List D_api_Col} {x10 : List D_api_Line} {ret : Bool → Option β} : s3c g7 g8 g10 g18 g19 g20 g21 g22 g23 g24 s0 s1 s2 s3 s4 x0 x1 x2 x3 x4 x5 x6 x7 x8 x9 x10 ret = (s3c g7 g8 g10 g18 g19 g20 g21 g22 g23 g24 s0 s1 s2 s3 s4 x0 x1 x2 x3 x4 x5 x6 x7 x8 x9 x10 some).bind ret := by
  simp only [s3c, bif_bind, sum_bind, oa, os, on, ofs]
theorem s4c_bind {β : Type} {g7 : transomlaw12_Few.G} {g8 : sheet_Check.G} {g10 : transomlaw12_awake.G} {g18 : transomlaw05_Few.G} {g19 : sheet_Put.G} {g20 : transomref12_Same.G} {g21 : schema_Key.G} {g22 : sheet_Find.G} {g23 : transomref06_Same.G} {g24 : sheet_Delete.G} {s0 : S0} {s1 : S1} {s2 : S2} {s3 : S3} {s4 : S4} {x0 : Bool} {x1 : ByteArray} {x2 : ByteArray} {x3 : Int} {x4 : List D_api_Col} {x5 : List D_api_Line} {x6 : ByteArray} {x7 : Int} {x8 : List D_api_Col} {x9 : List D_api_Line} {ret : Bool → Option β} : s4c g7 g8 g10 g18 g19 g20 g21 g22 g23 g24 s0 s1 s2 s3 s4 x0 x1 x2 x3 x4 x5 x6 x7 x8 x9 ret = (s4c g7 g8 g10 g18 g19 g20 g21 g22 g23 g24 s0 s1 s2 s3 s4 x0 x1 x2 x3 x4 x5 x6 x7 x8 x9 some).bind ret := by
  simp only [s4c, bif_bind, sum_bind, oa, os, on, ofs]
theorem ev {g7 : transomlaw12_Few.G} {g8 : sheet_Check.G} {g10 : transomlaw12_awake.G} {g18 : transomlaw05_Few.G} {g19 : sheet_Put.G} {g20 : transomref12_Same.G} {g21 : schema_Key.G} {g22 : sheet_Find.G} {g23 : transomref06_Same.G} {g24 : sheet_Delete.G} {s0 : S0} {s1 : S1} {s2 : S2} {s3 : S3} {s4 : S4} {a0 : ByteArray} {a1 : Int} {a2 : List D_api_Col} {a3 : List D_api_Line} {a4 : List D_api_Value} : evAt (env g7 g8 g10 g18 g19 g20 g21 g22 g23 g24 s0 s1 s2 s3 s4) [] [0, 1] [.v (.agg [(.d .str a0), (.d (.int .i64) a1), (.d (.sl T_api_Col) a2), (.d (.sl T_api_Line) a3)]), .v (.one (.d (.sl T_api_Value) a4))] [] some = c g7 g8 g10 g18 g19 g20 g21 g22 g23 g24 s0 s1 s2 s3 s4 a0 a1 a2 a3 a4 (fun r => some ⟨.v (.one (.d .bool r)), []⟩) := by
  kernel_rfl
theorem s0_ev {g7 : transomlaw12_Few.G} {g8 : sheet_Check.G} {g10 : transomlaw12_awake.G} {g18 : transomlaw05_Few.G} {g19 : sheet_Put.G} {g20 : transomref12_Same.G} {g21 : schema_Key.G} {g22 : sheet_Find.G} {g23 : transomref06_Same.G} {g24 : sheet_Delete.G} {s0 : S0} {s1 : S1} {s2 : S2} {s3 : S3} {s4 : S4} {x0 : List D_api_Value} {x1 : Bool} {x2 : ByteArray} {x3 : Int} {x4 : List D_api_Col} {x5 : List D_api_Line} : evAt (env g7 g8 g10 g18 g19 g20 g21 g22 g23 g24 s0 s1 s2 s3 s4) [1, 0, 1] [1, 2, 26] [.v (.one (.d (.sl T_api_Value) x0)), .v (.one (.ptr 0 0)), .v (.one (.d .bool x1))] [some (.box [(.d .str x2), (.d (.int .i64) x3), (.d (.sl T_api_Col) x4), (.d (.sl T_api_Line) x5)])] some = s0c g7 g8 g10 g18 g19 g20 g21 g22 g23 g24 s0 s1 s2 s3 s4 x0 x1 x2 x3 x4 x5 (fun r => some ⟨.v (.one (.d .bool r)), []⟩) := by
  kernel_rfl
theorem s1_ev {g7 : transomlaw12_Few.G} {g8 : sheet_Check.G} {g10 : transomlaw12_awake.G} {g18 : transomlaw05_Few.G} {g19 : sheet_Put.G} {g20 : transomref12_Same.G} {g21 : schema_Key.G} {g22 : sheet_Find.G} {g23 : transomref06_Same.G} {g24 : sheet_Delete.G} {s0 : S0} {s1 : S1} {s2 : S2} {s3 : S3} {s4 : S4} {x0 : List D_api_Value} {x1 : ByteArray} {x2 : Int} {x3 : List D_api_Col} {x4 : List D_api_Line} : evAt (env g7 g8 g10 g18 g19 g20 g21 g22 g23 g24 s0 s1 s2 s3 s4) [1, 1] [1, 2] [.v (.one (.d (.sl T_api_Value) x0)), .v (.one (.ptr 0 0))] [some (.box [(.d .str x1), (.d (.int .i64) x2), (.d (.sl T_api_Col) x3), (.d (.sl T_api_Line) x4)])] some = s1c g7 g8 g10 g18 g19 g20 g21 g22 g23 g24 s0 s1 s2 s3 s4 x0 x1 x2 x3 x4 (fun r => some ⟨.v (.one (.d .bool r)), []⟩) := by
  kernel_rfl
theorem s2_ev {g7 : transomlaw12_Few.G} {g8 : sheet_Check.G} {g10 : transomlaw12_awake.G} {g18 : transomlaw05_Few.G} {g19 : sheet_Put.G} {g20 : transomref12_Same.G} {g21 : schema_Key.G} {g22 : sheet_Find.G} {g23 : transomref06_Same.G} {g24 : sheet_Delete.G} {s0 : S0} {s1 : S1} {s2 : S2} {s3 : S3} {s4 : S4} {x0 : Bool} : evAt (env g7 g8 g10 g18 g19 g20 g21 g22 g23 g24 s0 s1 s2 s3 s4) [1, 2, 1, 0, 1, 1, 1] [4] [.v (.one (.d .bool x0))] [] some = s2c g7 g8 g10 g18 g19 g20 g21 g22 g23 g24 s0 s1 s2 s3 s4 x0 (fun r => some ⟨.v (.one (.d .bool r)), []⟩) := by
  kernel_rfl
theorem s3_ev {g7 : transomlaw12_Few.G} {g8 : sheet_Check.G} {g10 : transomlaw12_awake.G} {g18 : transomlaw05_Few.G} {g19 : sheet_Put.G} {g20 : transomref12_Same.G} {g21 : schema_Key.G} {g22 : sheet_Find.G} {g23 : transomref06_Same.G} {g24 : sheet_Delete.G} {s0 : S0} {s1 : S1} {s2 : S2} {s3 : S3} {s4 : S4} {x0 : Bool} {x1 : ByteArray} {x2 : Bool} {x3 : ByteArray} {x4 : Int} {x5 : List D_api_Col} {x6 : List D_api_Line} {x7 : ByteArray} {x8 : Int} {x9 : List D_api_Col} {x10 : List D_api_Line} : evAt (env g7 g8 g10 g18 g19 g20 g21 g22 g23 g24 s0 s1 s2 s3 s4) [1, 0, 1, 1, 1, 1, 1, 1] [2, 5, 6, 8, 84] [.v (.one (.ptr 0 0)), .v (.one (.ptr 1 0)), .v (.one (.d .bool x0)), .v (.one (.d .str x1)), .v (.one (.d .bool x2))] [some (.box [(.d .str x3), (.d (.int .i64) x4), (.d (.sl T_api_Col) x5), (.d (.sl T_api_Line) x6)]), some (.box [(.d .str x7), (.d (.int .i64) x8), (.d (.sl T_api_Col) x9), (.d (.sl T_api_Line) x10)])] some = s3c g7 g8 g10 g18 g19 g20 g21 g22 g23 g24 s0 s1 s2 s3 s4 x0 x1 x2 x3 x4 x5 x6 x7 x8 x9 x10 (fun r => some ⟨.v (.one (.d .bool r)), []⟩) := by
  kernel_rfl
theorem s4_ev {g7 : transomlaw12_Few.G} {g8 : sheet_Check.G} {g10 : transomlaw12_awake.G} {g18 : transomlaw05_Few.G} {g19 : sheet_Put.G} {g20 : transomref12_Same.G} {g21 : schema_Key.G} {g22 : sheet_Find.G} {g23 : transomref06_Same.G} {g24 : sheet_Delete.G} {s0 : S0} {s1 : S1} {s2 : S2} {s3 : S3} {s4 : S4} {x0 : Bool} {x1 : ByteArray} {x2 : ByteArray} {x3 : Int} {x4 : List D_api_Col} {x5 : List D_api_Line} {x6 : ByteArray} {x7 : Int} {x8 : List D_api_Col} {x9 : List D_api_Line} : evAt (env g7 g8 g10 g18 g19 g20 g21 g22 g23 g24 s0 s1 s2 s3 s4) [1, 1, 1, 1, 1, 1, 1] [2, 5, 6, 8] [.v (.one (.ptr 0 0)), .v (.one (.ptr 1 0)), .v (.one (.d .bool x0)), .v (.one (.d .str x1))] [some (.box [(.d .str x2), (.d (.int .i64) x3), (.d (.sl T_api_Col) x4), (.d (.sl T_api_Line) x5)]), some (.box [(.d .str x6), (.d (.int .i64) x7), (.d (.sl T_api_Col) x8), (.d (.sl T_api_Line) x9)])] some = s4c g7 g8 g10 g18 g19 g20 g21 g22 g23 g24 s0 s1 s2 s3 s4 x0 x1 x2 x3 x4 x5 x6 x7 x8 x9 (fun r => some ⟨.v (.one (.d .bool r)), []⟩) := by
  kernel_rfl
mutual
def s0 : Nat → (List D_api_Value) → Bool → ByteArray → Int → (List D_api_Col) → (List D_api_Line) → Option Bool
  | 0, _, _, _, _, _, _ => none
  | k + 1, x0, x1, x2, x3, x4, x5 => s0c (transomlaw12_Few.f k) (sheet_Check.f k) (transomlaw12_awake.f k) (transomlaw05_Few.f k) (sheet_Put.f k) (transomref12_Same.f k) (schema_Key.f k) (sheet_Find.f k) (transomref06_Same.f k) (sheet_Delete.f k) (s0 k) (s1 k) (s2 k) (s3 k) (s4 k) x0 x1 x2 x3 x4 x5 some
def s1 : Nat → (List D_api_Value) → ByteArray → Int → (List D_api_Col) → (List D_api_Line) → Option Bool
  | 0, _, _, _, _, _ => none
  | k + 1, x0, x1, x2, x3, x4 => s1c (transomlaw12_Few.f k) (sheet_Check.f k) (transomlaw12_awake.f k) (transomlaw05_Few.f k) (sheet_Put.f k) (transomref12_Same.f k) (schema_Key.f k) (sheet_Find.f k) (transomref06_Same.f k) (sheet_Delete.f k) (s0 k) (s1 k) (s2 k) (s3 k) (s4 k) x0 x1 x2 x3 x4 some
def s2 : Nat → Bool → Option Bool
  | 0, _ => none
  | k + 1, x0 => s2c (transomlaw12_Few.f k) (sheet_Check.f k) (transomlaw12_awake.f k) (transomlaw05_Few.f k) (sheet_Put.f k) (transomref12_Same.f k) (schema_Key.f k) (sheet_Find.f k) (transomref06_Same.f k) (sheet_Delete.f k) (s0 k) (s1 k) (s2 k) (s3 k) (s4 k) x0 some
def s3 : Nat → Bool → ByteArray → Bool → ByteArray → Int → (List D_api_Col) → (List D_api_Line) → ByteArray → Int → (List D_api_Col) → (List D_api_Line) → Option Bool
  | 0, _, _, _, _, _, _, _, _, _, _, _ => none
  | k + 1, x0, x1, x2, x3, x4, x5, x6, x7, x8, x9, x10 => s3c (transomlaw12_Few.f k) (sheet_Check.f k) (transomlaw12_awake.f k) (transomlaw05_Few.f k) (sheet_Put.f k) (transomref12_Same.f k) (schema_Key.f k) (sheet_Find.f k) (transomref06_Same.f k) (sheet_Delete.f k) (s0 k) (s1 k) (s2 k) (s3 k) (s4 k) x0 x1 x2 x3 x4 x5 x6 x7 x8 x9 x10 some
def s4 : Nat → Bool → ByteArray → ByteArray → Int → (List D_api_Col) → (List D_api_Line) → ByteArray → Int → (List D_api_Col) → (List D_api_Line) → Option Bool
  | 0, _, _, _, _, _, _, _, _, _, _ => none
  | k + 1, x0, x1, x2, x3, x4, x5, x6, x7, x8, x9 => s4c (transomlaw12_Few.f k) (sheet_Check.f k) (transomlaw12_awake.f k) (transomlaw05_Few.f k) (sheet_Put.f k) (transomref12_Same.f k) (schema_Key.f k) (sheet_Find.f k) (transomref06_Same.f k) (sheet_Delete.f k) (s0 k) (s1 k) (s2 k) (s3 k) (s4 k) x0 x1 x2 x3 x4 x5 x6 x7 x8 x9 some
end
def f (k : Nat) (a0 : ByteArray) (a1 : Int) (a2 : List D_api_Col) (a3 : List D_api_Line) (a4 : List D_api_Value) : Option Bool := c (transomlaw12_Few.f k) (sheet_Check.f k) (transomlaw12_awake.f k) (transomlaw05_Few.f k) (sheet_Put.f k) (transomref12_Same.f k) (schema_Key.f k) (sheet_Find.f k) (transomref06_Same.f k) (sheet_Delete.f k) (s0 k) (s1 k) (s2 k) (s3 k) (s4 k) a0 a1 a2 a3 a4 some
theorem is {g7 : transomlaw12_Few.G} {g8 : sheet_Check.G} {g10 : transomlaw12_awake.G} {g18 : transomlaw05_Few.G} {g19 : sheet_Put.G} {g20 : transomref12_Same.G} {g21 : schema_Key.G} {g22 : sheet_Find.G} {g23 : transomref06_Same.G} {g24 : sheet_Delete.G} {s0 : S0} {s1 : S1} {s2 : S2} {s3 : S3} {s4 : S4} : FnIs (env g7 g8 g10 g18 g19 g20 g21 g22 g23 g24 s0 s1 s2 s3 s4) 6 f6 := ⟨func6, rfl, rfl, rfl, by decide⟩
theorem envok {g7 : transomlaw12_Few.G} {g8 : sheet_Check.G} {g10 : transomlaw12_awake.G} {g18 : transomlaw05_Few.G} {g19 : sheet_Put.G} {g20 : transomref12_Same.G} {g21 : schema_Key.G} {g22 : sheet_Find.G} {g23 : transomref06_Same.G} {g24 : sheet_Delete.G} {s0 : S0} {s1 : S1} {s2 : S2} {s3 : S3} {s4 : S4} (h7 : CtOK prog 7 (transomlaw12_Few.ct g7)) (h8 : CtOK prog 8 (sheet_Check.ct g8)) (h10 : CtOK prog 10 (transomlaw12_awake.ct g10)) (h18 : CtOK prog 18 (transomlaw05_Few.ct g18)) (h19 : CtOK prog 19 (sheet_Put.ct g19)) (h20 : CtOK prog 20 (transomref12_Same.ct g20)) (h21 : CtOK prog 21 (schema_Key.ct g21)) (h22 : CtOK prog 22 (sheet_Find.ct g22)) (h23 : CtOK prog 23 (transomref06_Same.ct g23)) (h24 : CtOK prog 24 (sheet_Delete.ct g24)) : EnvOK (env g7 g8 g10 g18 g19 g20 g21 g22 g23 g24 s0 s1 s2 s3 s4).toEnv := by
  intro f c h
  simp only [env] at h
  split at h
  · rename_i e; subst e; cases h; exact h7
  split at h
  · rename_i e; subst e; cases h; exact h8
  split at h
  · rename_i e; subst e; cases h; exact h10
  split at h
  · rename_i e; subst e; cases h; exact h18
  split at h
  · rename_i e; subst e; cases h; exact h19
  split at h
  · rename_i e; subst e; cases h; exact h20
  split at h
  · rename_i e; subst e; cases h; exact h21
  split at h
  · rename_i e; subst e; cases h; exact h22
  split at h
  · rename_i e; subst e; cases h; exact h23
  split at h
  · rename_i e; subst e; cases h; exact h24
  simp at h
noncomputable abbrev E (k : Nat) : FEnv := env (transomlaw12_Few.f k) (sheet_Check.f k) (transomlaw12_awake.f k) (transomlaw05_Few.f k) (sheet_Put.f k) (transomref12_Same.f k) (schema_Key.f k) (sheet_Find.f k) (transomref06_Same.f k) (sheet_Delete.f k) (s0 k) (s1 k) (s2 k) (s3 k) (s4 k)
theorem hE (k : Nat) : EnvOK (E k).toEnv := envok (transomlaw12_Few.ok k) (sheet_Check.ok k) (transomlaw12_awake.ok k) (transomlaw05_Few.ok k) (sheet_Put.ok k) (transomref12_Same.ok k) (schema_Key.ok k) (sheet_Find.ok k) (transomref06_Same.ok k) (sheet_Delete.ok k)
theorem segs_ok : ∀ k, ∀ s ∈ (E k).segs, SegOK (E k) f6 s
  | 0 => by
    intro s hs
    simp only [E, env, List.mem_cons, List.not_mem_nil, or_false] at hs
    rcases hs with rfl | rfl | rfl | rfl | rfl
    · intro tvs blks res h; exfalso; simp only [sg0] at h; split at h <;> simp [s0] at h
    · intro tvs blks res h; exfalso; simp only [sg1] at h; split at h <;> simp [s1] at h
    · intro tvs blks res h; exfalso; simp only [sg2] at h; split at h <;> simp [s2] at h
    · intro tvs blks res h; exfalso; simp only [sg3] at h; split at h <;> simp [s3] at h
    · intro tvs blks res h; exfalso; simp only [sg4] at h; split at h <;> simp [s4] at h
  | k + 1 => by
    intro s hs
    simp only [E, env, List.mem_cons, List.not_mem_nil, or_false] at hs
    rcases hs with rfl | rfl | rfl | rfl | rfl
    · refine seg_of_ev (E := E k) (hE k) ⟨is.rvs⟩ (segs_ok k) ?_
      intro tvs blks res h
      simp only [sg0] at h
      split at h
      · exact (s0_ev.trans s0c_bind).trans h
      · simp at h
    · refine seg_of_ev (E := E k) (hE k) ⟨is.rvs⟩ (segs_ok k) ?_
      intro tvs blks res h
      simp only [sg1] at h
      split at h
      · exact (s1_ev.trans s1c_bind).trans h
      · simp at h
    · refine seg_of_ev (E := E k) (hE k) ⟨is.rvs⟩ (segs_ok k) ?_
      intro tvs blks res h
      simp only [sg2] at h
      split at h
      · exact (s2_ev.trans s2c_bind).trans h
      · simp at h
    · refine seg_of_ev (E := E k) (hE k) ⟨is.rvs⟩ (segs_ok k) ?_
      intro tvs blks res h
      simp only [sg3] at h
      split at h
      · exact (s3_ev.trans s3c_bind).trans h
      · simp at h
    · refine seg_of_ev (E := E k) (hE k) ⟨is.rvs⟩ (segs_ok k) ?_
      intro tvs blks res h
      simp only [sg4] at h
      split at h
      · exact (s4_ev.trans s4c_bind).trans h
      · simp at h
theorem ok (k : Nat) : CtOK prog 6 (ct (f k)) := by
  refine ct_of_ev (E := E k) is (hE k) (segs_ok k) rfl ?_
  intro tvs blks res h
  simp only [ct] at h
  split at h
  · exact (ev.trans c_bind).trans h
  · simp at h
end transomlaw12_SheetBack
end Go.Proofs.YtdbbkmmillnaiaaDoor.Aev
