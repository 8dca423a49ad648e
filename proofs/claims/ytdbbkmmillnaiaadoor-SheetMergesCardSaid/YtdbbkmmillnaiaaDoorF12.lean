/- By a program of this session (AEV): functions of the program as plain functions, and that the machine does what they say. -/
import Derived.Test.YtdbbkmmillnaiaaDoorTys
import Derived.Test.YtdbbkmmillnaiaaDoorProg
import Derived.Laws.Externs
import Derived.Lib.Bytealg
import Derived.Test.YtdbbkmmillnaiaaDoorF1
import Derived.Test.YtdbbkmmillnaiaaDoorF8
import Derived.Test.YtdbbkmmillnaiaaDoorF9
import Derived.Test.YtdbbkmmillnaiaaDoorF10
import Derived.Test.YtdbbkmmillnaiaaDoorF11
namespace Go.Proofs.YtdbbkmmillnaiaaDoor.Aev
set_option linter.unusedVariables false
set_option linter.unusedSimpArgs false
set_option maxRecDepth 100000
set_option maxHeartbeats 4000000
open Go Go.Proofs.Tryd
namespace transomlaw12_SheetMerges
abbrev G : Type := ByteArray → Int → (List D_api_Col) → (List D_api_Line) → ByteArray → Int → (List D_api_Col) → (List D_api_Line) → Option Bool
def ct (g : G) : Ct where
  nin := 0
  mv := []
  F := fun tvs blks {β} K => match tvs, blks with
    | [.v (.agg [(.d .str a0), (.d (.int .i64) a1), (.d (.sl (.pair .str (.pair (.int .i64) (.pair .bool (.pair (.pair (.int .i64) (.pair (.int .i64) (.pair (.int .u64) (.pair .str .unit)))) .unit))))) a2), (.d (.sl (.pair .str (.pair (.sl (.pair (.int .i64) (.pair (.int .i64) (.pair (.int .u64) (.pair .str .unit))))) .unit))) a3)]), .v (.agg [(.d .str a4), (.d (.int .i64) a5), (.d (.sl (.pair .str (.pair (.int .i64) (.pair .bool (.pair (.pair (.int .i64) (.pair (.int .i64) (.pair (.int .u64) (.pair .str .unit)))) .unit))))) a6), (.d (.sl (.pair .str (.pair (.sl (.pair (.int .i64) (.pair (.int .i64) (.pair (.int .u64) (.pair .str .unit))))) .unit))) a7)])], [] => (g a0 a1 a2 a3 a4 a5 a6 a7).bind fun r => K ⟨.v (.one (.d .bool r)), []⟩
    | _, _ => none
  legit := fun _ _ K _ h => by split at h; exact (legit1 K h :); simp at h
abbrev S0 : Type := Bool → ByteArray → Int → (List D_api_Col) → (List D_api_Line) → ByteArray → Int → (List D_api_Col) → (List D_api_Line) → Option Bool
abbrev S1 : Type := ByteArray → Int → (List D_api_Col) → (List D_api_Line) → ByteArray → Int → (List D_api_Col) → (List D_api_Line) → Option Bool
abbrev S2 : Type := (List D_api_Line) → Int → Bool → ByteArray → Int → (List D_api_Col) → (List D_api_Line) → ByteArray → Int → (List D_api_Col) → (List D_api_Line) → Option Bool
abbrev S3 : Type := (List D_api_Line) → Int → ByteArray → Int → (List D_api_Col) → (List D_api_Line) → ByteArray → Int → (List D_api_Col) → (List D_api_Line) → Option Bool
def sg0 (g : S0) : Seg where
  path := [1, 0, 1]
  prep := []
  keep := [2, 3, 26]
  F := fun tvs blks {β} K => match tvs, blks with
    | [.v (.one (.ptr 0 0)), .v (.one (.ptr 1 0)), .v (.one (.d .bool x0))], [some (.box [(.d .str x1), (.d (.int .i64) x2), (.d (.sl (.pair .str (.pair (.int .i64) (.pair .bool (.pair (.pair (.int .i64) (.pair (.int .i64) (.pair (.int .u64) (.pair .str .unit)))) .unit))))) x3), (.d (.sl (.pair .str (.pair (.sl (.pair (.int .i64) (.pair (.int .i64) (.pair (.int .u64) (.pair .str .unit))))) .unit))) x4)]), some (.box [(.d .str x5), (.d (.int .i64) x6), (.d (.sl (.pair .str (.pair (.int .i64) (.pair .bool (.pair (.pair (.int .i64) (.pair (.int .i64) (.pair (.int .u64) (.pair .str .unit)))) .unit))))) x7), (.d (.sl (.pair .str (.pair (.sl (.pair (.int .i64) (.pair (.int .i64) (.pair (.int .u64) (.pair .str .unit))))) .unit))) x8)])] => (g x0 x1 x2 x3 x4 x5 x6 x7 x8).bind fun r => K ⟨.v (.one (.d .bool r)), []⟩
    | _, _ => none
  legit := fun _ _ K _ h => by split at h; exact (legit1 K h :); simp at h
def sg1 (g : S1) : Seg where
  path := [1, 1]
  prep := []
  keep := [2, 3]
  F := fun tvs blks {β} K => match tvs, blks with
    | [.v (.one (.ptr 0 0)), .v (.one (.ptr 1 0))], [some (.box [(.d .str x0), (.d (.int .i64) x1), (.d (.sl (.pair .str (.pair (.int .i64) (.pair .bool (.pair (.pair (.int .i64) (.pair (.int .i64) (.pair (.int .u64) (.pair .str .unit)))) .unit))))) x2), (.d (.sl (.pair .str (.pair (.sl (.pair (.int .i64) (.pair (.int .i64) (.pair (.int .u64) (.pair .str .unit))))) .unit))) x3)]), some (.box [(.d .str x4), (.d (.int .i64) x5), (.d (.sl (.pair .str (.pair (.int .i64) (.pair .bool (.pair (.pair (.int .i64) (.pair (.int .i64) (.pair (.int .u64) (.pair .str .unit)))) .unit))))) x6), (.d (.sl (.pair .str (.pair (.sl (.pair (.int .i64) (.pair (.int .i64) (.pair (.int .u64) (.pair .str .unit))))) .unit))) x7)])] => (g x0 x1 x2 x3 x4 x5 x6 x7).bind fun r => K ⟨.v (.one (.d .bool r)), []⟩
    | _, _ => none
  legit := fun _ _ K _ h => by split at h; exact (legit1 K h :); simp at h
def sg2 (g : S2) : Seg where
  path := [1, 0, 1, 1, 1, 1]
  prep := []
  keep := [2, 3, 5, 6, 48]
  F := fun tvs blks {β} K => match tvs, blks with
    | [.v (.one (.ptr 0 0)), .v (.one (.ptr 1 0)), .v (.one (.d (.sl (.pair .str (.pair (.sl (.pair (.int .i64) (.pair (.int .i64) (.pair (.int .u64) (.pair .str .unit))))) .unit))) x0)), .v (.one (.d (.int .i64) x1)), .v (.one (.d .bool x2))], [some (.box [(.d .str x3), (.d (.int .i64) x4), (.d (.sl (.pair .str (.pair (.int .i64) (.pair .bool (.pair (.pair (.int .i64) (.pair (.int .i64) (.pair (.int .u64) (.pair .str .unit)))) .unit))))) x5), (.d (.sl (.pair .str (.pair (.sl (.pair (.int .i64) (.pair (.int .i64) (.pair (.int .u64) (.pair .str .unit))))) .unit))) x6)]), some (.box [(.d .str x7), (.d (.int .i64) x8), (.d (.sl (.pair .str (.pair (.int .i64) (.pair .bool (.pair (.pair (.int .i64) (.pair (.int .i64) (.pair (.int .u64) (.pair .str .unit)))) .unit))))) x9), (.d (.sl (.pair .str (.pair (.sl (.pair (.int .i64) (.pair (.int .i64) (.pair (.int .u64) (.pair .str .unit))))) .unit))) x10)])] => (g x0 x1 x2 x3 x4 x5 x6 x7 x8 x9 x10).bind fun r => K ⟨.v (.one (.d .bool r)), []⟩
    | _, _ => none
  legit := fun _ _ K _ h => by split at h; exact (legit1 K h :); simp at h
def sg3 (g : S3) : Seg where
  path := [1, 1, 1, 1, 1]
  prep := []
  keep := [2, 3, 5, 6]
  F := fun tvs blks {β} K => match tvs, blks with
    | [.v (.one (.ptr 0 0)), .v (.one (.ptr 1 0)), .v (.one (.d (.sl (.pair .str (.pair (.sl (.pair (.int .i64) (.pair (.int .i64) (.pair (.int .u64) (.pair .str .unit))))) .unit))) x0)), .v (.one (.d (.int .i64) x1))], [some (.box [(.d .str x2), (.d (.int .i64) x3), (.d (.sl (.pair .str (.pair (.int .i64) (.pair .bool (.pair (.pair (.int .i64) (.pair (.int .i64) (.pair (.int .u64) (.pair .str .unit)))) .unit))))) x4), (.d (.sl (.pair .str (.pair (.sl (.pair (.int .i64) (.pair (.int .i64) (.pair (.int .u64) (.pair .str .unit))))) .unit))) x5)]), some (.box [(.d .str x6), (.d (.int .i64) x7), (.d (.sl (.pair .str (.pair (.int .i64) (.pair .bool (.pair (.pair (.int .i64) (.pair (.int .i64) (.pair (.int .u64) (.pair .str .unit)))) .unit))))) x8), (.d (.sl (.pair .str (.pair (.sl (.pair (.int .i64) (.pair (.int .i64) (.pair (.int .u64) (.pair .str .unit))))) .unit))) x9)])] => (g x0 x1 x2 x3 x4 x5 x6 x7 x8 x9).bind fun r => K ⟨.v (.one (.d .bool r)), []⟩
    | _, _ => none
  legit := fun _ _ K _ h => by split at h; exact (legit1 K h :); simp at h
noncomputable def env (g7 : transomlaw12_Few.G) (g10 : transomlaw12_awake.G) (g11 : transomlaw12_Rises.G) (g15 : sheet_Merge.G) (g16 : transomref12_Merge.G) (g17 : transomref12_SameLines.G) (s0 : S0) (s1 : S1) (s2 : S2) (s3 : S3) : FEnv := { P := prog, ct := fun m => if m = 7 then some (transomlaw12_Few.ct g7) else if m = 10 then some (transomlaw12_awake.ct g10) else if m = 11 then some (transomlaw12_Rises.ct g11) else if m = 15 then some (sheet_Merge.ct g15) else if m = 16 then some (transomref12_Merge.ct g16) else if m = 17 then some (transomref12_SameLines.ct g17) else none, N := 72, body := f5.body.getD .skip, rvs := [.tmp 4], rts := [4], nin := 0, rmv := [], segs := [sg0 s0, sg1 s1, sg2 s2, sg3 s3] }
def c {β : Type} (g7 : transomlaw12_Few.G) (g10 : transomlaw12_awake.G) (g11 : transomlaw12_Rises.G) (g15 : sheet_Merge.G) (g16 : transomref12_Merge.G) (g17 : transomref12_SameLines.G) (s0 : S0) (s1 : S1) (s2 : S2) (s3 : S3) (a0 : ByteArray) (a1 : Int) (a2 : List D_api_Col) (a3 : List D_api_Line) (a4 : ByteArray) (a5 : Int) (a6 : List D_api_Col) (a7 : List D_api_Line) (ret : Bool → Option β) : Option β := ((g7 a0 a1 a2 a3).bind fun r0 => (bif (r0 == (0 : Int)) then ((s0 true a0 a1 a2 a3 a4 a5 a6 a7).bind ret) else ((g7 a4 a5 a6 a7).bind fun r1 => (bif (r1 == (0 : Int)) then ((s0 true a0 a1 a2 a3 a4 a5 a6 a7).bind ret) else ((g11 a0 a1 a2 a3).bind fun r2 => (bif (r2 == (0 : Int)) then ((s0 true a0 a1 a2 a3 a4 a5 a6 a7).bind ret) else ((g11 a4 a5 a6 a7).bind fun r3 => ((s0 (r3 == (0 : Int)) a0 a1 a2 a3 a4 a5 a6 a7).bind ret))))))))
def s0c {β : Type} (g7 : transomlaw12_Few.G) (g10 : transomlaw12_awake.G) (g11 : transomlaw12_Rises.G) (g15 : sheet_Merge.G) (g16 : transomref12_Merge.G) (g17 : transomref12_SameLines.G) (s0 : S0) (s1 : S1) (s2 : S2) (s3 : S3) (x0 : Bool) (x1 : ByteArray) (x2 : Int) (x3 : List D_api_Col) (x4 : List D_api_Line) (x5 : ByteArray) (x6 : Int) (x7 : List D_api_Col) (x8 : List D_api_Line) (ret : Bool → Option β) : Option β := (bif x0 then (g10.bind fun r0 => (ret (r0))) else ((s1 x1 x2 x3 x4 x5 x6 x7 x8).bind ret))
def s1c {β : Type} (g7 : transomlaw12_Few.G) (g10 : transomlaw12_awake.G) (g11 : transomlaw12_Rises.G) (g15 : sheet_Merge.G) (g16 : transomref12_Merge.G) (g17 : transomref12_SameLines.G) (s0 : S0) (s1 : S1) (s2 : S2) (s3 : S3) (x0 : ByteArray) (x1 : Int) (x2 : List D_api_Col) (x3 : List D_api_Line) (x4 : ByteArray) (x5 : Int) (x6 : List D_api_Col) (x7 : List D_api_Line) (ret : Bool → Option β) : Option β := ((g15 x0 x1 x2 x3 x4 x5 x6 x7).bind fun r0 => ((g16 x0 x1 x2 x3 x4 x5 x6 x7).bind fun r1 => ((g17 r0.1 r1.1).bind fun r2 => (bif (!r2) then ((s2 r0.1 r0.2 true x0 x1 x2 x3 x4 x5 x6 x7).bind ret) else ((s2 r0.1 r0.2 (r0.2 != r1.2) x0 x1 x2 x3 x4 x5 x6 x7).bind ret)))))
def s2c {β : Type} (g7 : transomlaw12_Few.G) (g10 : transomlaw12_awake.G) (g11 : transomlaw12_Rises.G) (g15 : sheet_Merge.G) (g16 : transomref12_Merge.G) (g17 : transomref12_SameLines.G) (s0 : S0) (s1 : S1) (s2 : S2) (s3 : S3) (x0 : List D_api_Line) (x1 : Int) (x2 : Bool) (x3 : ByteArray) (x4 : Int) (x5 : List D_api_Col) (x6 : List D_api_Line) (x7 : ByteArray) (x8 : Int) (x9 : List D_api_Col) (x10 : List D_api_Line) (ret : Bool → Option β) : Option β := (bif x2 then (ret (false)) else ((s3 x0 x1 x3 x4 x5 x6 x7 x8 x9 x10).bind ret))
def s3c {β : Type} (g7 : transomlaw12_Few.G) (g10 : transomlaw12_awake.G) (g11 : transomlaw12_Rises.G) (g15 : sheet_Merge.G) (g16 : transomref12_Merge.G) (g17 : transomref12_SameLines.G) (s0 : S0) (s1 : S1) (s2 : S2) (s3 : S3) (x0 : List D_api_Line) (x1 : Int) (x2 : ByteArray) (x3 : Int) (x4 : List D_api_Col) (x5 : List D_api_Line) (x6 : ByteArray) (x7 : Int) (x8 : List D_api_Col) (x9 : List D_api_Line) (ret : Bool → Option β) : Option β := (bif (x1 != (0 : Int)) then (g10.bind fun r0 => (ret (r0))) else (bif (((List.length x0) : Int) == (IntKind.wrap IntKind.i64 (((List.length x5) : Int) + ((List.length x9) : Int)))) then ((g11 (ByteArray.mk (List.toArray [])) (0 : Int) [] x0).bind fun r1 => (bif (r1 == (1 : Int)) then (g10.bind fun r2 => (ret (r2))) else (ret (false)))) else (ret (false))))
theorem c_bind {β : Type} {g7 : transomlaw12_Few.G} {g10 : transomlaw12_awake.G} {g11 : transomlaw12_Rises.G} {g15 : sheet_Merge.G} {g16 : transomref12_Merge.G} {g17 : transomref12_SameLines.G} {s0 : S0} {s1 : S1} {s2 : S2} {s3 : S3} {a0 : ByteArray} {a1 : Int} {a2 : List D_api_Col} {a3 : List D_api_Line} {a4 : ByteArray} {a5 : Int} {a6 : List D_api_Col} {a7 : List D_api_Line} {ret : Bool → Option β} : c g7 g10 g11 g15 g16 g17 s0 s1 s2 s3 a0 a1 a2 a3 a4 a5 a6 a7 ret = (c g7 g10 g11 g15 g16 g17 s0 s1 s2 s3 a0 a1 a2 a3 a4 a5 a6 a7 some).bind ret := by
  simp only [c, bif_bind, sum_bind, oa, os, on, ofs]
theorem s0c_bind {β : Type} {g7 : transomlaw12_Few.G} {g10 : transomlaw12_awake.G} {g11 : transomlaw12_Rises.G} {g15 : sheet_Merge.G} {g16 : transomref12_Merge.G} {g17 : transomref12_SameLines.G} {s0 : S0} {s1 : S1} {s2 : S2} {s3 : S3} {x0 : Bool} {x1 : ByteArray} {x2 : Int} {x3 : List D_api_Col} {x4 : List D_api_Line} {x5 : ByteArray} {x6 : Int} {x7 : List D_api_Col} {x8 : List D_api_Line} {ret : Bool → Option β} : s0c g7 g10 g11 g15 g16 g17 s0 s1 s2 s3 x0 x1 x2 x3 x4 x5 x6 x7 x8 ret = (s0c g7 g10 g11 g15 g16 g17 s0 s1 s2 s3 x0 x1 x2 x3 x4 x5 x6 x7 x8 some).bind ret := by
  simp only [s0c, bif_bind, sum_bind, oa, os, on, ofs]
theorem s1c_bind {β : Type} {g7 : transomlaw12_Few.G} {g10 : transomlaw12_awake.G} {g11 : transomlaw12_Rises.G} {g15 : sheet_Merge.G} {g16 : transomref12_Merge.G} {g17 : transomref12_SameLines.G} {s0 : S0} {s1 : S1} {s2 : S2} {s3 : S3} {x0 : ByteArray} {x1 : Int} {x2 : List D_api_Col} {x3 : List D_api_Line} {x4 : ByteArray} {x5 : Int} {x6 : List D_api_Col} {x7 : List D_api_Line} {ret : Bool → Option β} : s1c g7 g10 g11 g15 g16 g17 s0 s1 s2 s3 x0 x1 x2 x3 x4 x5 x6 x7 ret = (s1c g7 g10 g11 g15 g16 g17 s0 s1 s2 s3 x0 x1 x2 x3 x4 x5 x6 x7 some).bind ret := by
  simp only [s1c, bif_bind, sum_bind, oa, os, on, ofs]
theorem s2c_bind {β : Type} {g7 : transomlaw12_Few.G} {g10 : transomlaw12_awake.G} {g11 : transomlaw12_Rises.G} {g15 : sheet_Merge.G} {g16 : transomref12_Merge.G} {g17 : transomref12_SameLines.G} {s0 : S0} {s1 : S1} {s2 : S2} {s3 : S3} {x0 : List D_api_Line} {x1 : Int} {x2 : Bool} {x3 : ByteArray} {x4 : Int} {x5 : List D_api_Col} {x6 : List D_api_Line} {x7 : ByteArray} {x8 : Int} {x9 : List D_api_Col} {x10 : List D_api_Line} {ret : Bool → Option β} : s2c g7 g10 g11 g15 g16 g17 s0 s1 s2 s3 x0 x1 x2 x3 x4 x5 x6 x7 x8 x9 x10 ret = (s2c g7 g10 g11 g15 g16 g17 s0 s1 s2 s3 x0 x1 x2 x3 x4 x5 x6 x7 x8 x9 x10 some).bind ret := by
  simp only [s2c, bif_bind, sum_bind, oa, os, on, ofs]
theorem s3c_bind {β : Type} {g7 : transomlaw12_Few.G} {g10 : transomlaw12_awake.G} {g11 : transomlaw12_Rises.G} {g15 : sheet_Merge.G} {g16 : transomref12_Merge.G} {g17 : transomref12_SameLines.G} {s0 : S0} {s1 : S1} {s2 : S2} {s3 : S3} {x0 : List D_api_Line} {x1 : Int} {x2 : ByteArray} {x3 : Int} {x4 : List D_api_Col} {x5 : List D_api_Line} {x6 : ByteArray} {x7 : Int} {x8 : List D_api_Col} {x9 : List D_api_Line} {ret : Bool → Option β} : s3c g7 g10 g11 g15 g16 g17 s0 s1 s2 s3 x0 x1 x2 x3 x4 x5 x6 x7 x8 x9 ret = (s3c g7 g10 g11 g15 g16 g17 s0 s1 s2 s3 x0 x1 x2 x3 x4 x5 x6 x7 x8 x9 some).bind ret := by
  simp only [s3c, bif_bind, sum_bind, oa, os, on, ofs]
theorem ev {g7 : transomlaw12_Few.G} {g10 : transomlaw12_awake.G} {g11 : transomlaw12_Rises.G} {g15 : sheet_Merge.G} {g16 : transomref12_Merge.G} {g17 : transomref12_SameLines.G} {s0 : S0} {s1 : S1} {s2 : S2} {s3 : S3} {a0 : ByteArray} {a1 : Int} {a2 : List D_api_Col} {a3 : List D_api_Line} {a4 : ByteArray} {a5 : Int} {a6 : List D_api_Col} {a7 : List D_api_Line} : evAt (env g7 g10 g11 g15 g16 g17 s0 s1 s2 s3) [] [0, 1] [.v (.agg [(.d .str a0), (.d (.int .i64) a1), (.d (.sl T_api_Col) a2), (.d (.sl T_api_Line) a3)]), .v (.agg [(.d .str a4), (.d (.int .i64) a5), (.d (.sl T_api_Col) a6), (.d (.sl T_api_Line) a7)])] [] some = c g7 g10 g11 g15 g16 g17 s0 s1 s2 s3 a0 a1 a2 a3 a4 a5 a6 a7 (fun r => some ⟨.v (.one (.d .bool r)), []⟩) := by
  kernel_rfl
theorem s0_ev {g7 : transomlaw12_Few.G} {g10 : transomlaw12_awake.G} {g11 : transomlaw12_Rises.G} {g15 : sheet_Merge.G} {g16 : transomref12_Merge.G} {g17 : transomref12_SameLines.G} {s0 : S0} {s1 : S1} {s2 : S2} {s3 : S3} {x0 : Bool} {x1 : ByteArray} {x2 : Int} {x3 : List D_api_Col} {x4 : List D_api_Line} {x5 : ByteArray} {x6 : Int} {x7 : List D_api_Col} {x8 : List D_api_Line} : evAt (env g7 g10 g11 g15 g16 g17 s0 s1 s2 s3) [1, 0, 1] [2, 3, 26] [.v (.one (.ptr 0 0)), .v (.one (.ptr 1 0)), .v (.one (.d .bool x0))] [some (.box [(.d .str x1), (.d (.int .i64) x2), (.d (.sl T_api_Col) x3), (.d (.sl T_api_Line) x4)]), some (.box [(.d .str x5), (.d (.int .i64) x6), (.d (.sl T_api_Col) x7), (.d (.sl T_api_Line) x8)])] some = s0c g7 g10 g11 g15 g16 g17 s0 s1 s2 s3 x0 x1 x2 x3 x4 x5 x6 x7 x8 (fun r => some ⟨.v (.one (.d .bool r)), []⟩) := by
  kernel_rfl
theorem s1_ev {g7 : transomlaw12_Few.G} {g10 : transomlaw12_awake.G} {g11 : transomlaw12_Rises.G} {g15 : sheet_Merge.G} {g16 : transomref12_Merge.G} {g17 : transomref12_SameLines.G} {s0 : S0} {s1 : S1} {s2 : S2} {s3 : S3} {x0 : ByteArray} {x1 : Int} {x2 : List D_api_Col} {x3 : List D_api_Line} {x4 : ByteArray} {x5 : Int} {x6 : List D_api_Col} {x7 : List D_api_Line} : evAt (env g7 g10 g11 g15 g16 g17 s0 s1 s2 s3) [1, 1] [2, 3] [.v (.one (.ptr 0 0)), .v (.one (.ptr 1 0))] [some (.box [(.d .str x0), (.d (.int .i64) x1), (.d (.sl T_api_Col) x2), (.d (.sl T_api_Line) x3)]), some (.box [(.d .str x4), (.d (.int .i64) x5), (.d (.sl T_api_Col) x6), (.d (.sl T_api_Line) x7)])] some = s1c g7 g10 g11 g15 g16 g17 s0 s1 s2 s3 x0 x1 x2 x3 x4 x5 x6 x7 (fun r => some ⟨.v (.one (.d .bool r)), []⟩) := by
  kernel_rfl
theorem s2_ev {g7 : transomlaw12_Few.G} {g10 : transomlaw12_awake.G} {g11 : transomlaw12_Rises.G} {g15 : sheet_Merge.G} {g16 : transomref12_Merge.G} {g17 : transomref12_SameLines.G} {s0 : S0} {s1 : S1} {s2 : S2} {s3 : S3} {x0 : List D_api_Line} {x1 : Int} {x2 : Bool} {x3 : ByteArray} {x4 : Int} {x5 : List D_api_Col} {x6 : List D_api_Line} {x7 : ByteArray} {x8 : Int} {x9 : List D_api_Col} {x10 : List D_api_Line} : evAt (env g7 g10 g11 g15 g16 g17 s0 s1 s2 s3) [1, 0, 1, 1, 1, 1] [2, 3, 5, 6, 48] [.v (.one (.ptr 0 0)), .v (.one (.ptr 1 0)), .v (.one (.d (.sl T_api_Line) x0)), .v (.one (.d (.int .i64) x1)), .v (.one (.d .bool x2))] [some (.box [(.d .str x3), (.d (.int .i64) x4), (.d (.sl T_api_Col) x5), (.d (.sl T_api_Line) x6)]), some (.box [(.d .str x7), (.d (.int .i64) x8), (.d (.sl T_api_Col) x9), (.d (.sl T_api_Line) x10)])] some = s2c g7 g10 g11 g15 g16 g17 s0 s1 s2 s3 x0 x1 x2 x3 x4 x5 x6 x7 x8 x9 x10 (fun r => some ⟨.v (.one (.d .bool r)), []⟩) := by
  kernel_rfl
theorem s3_ev {g7 : transomlaw12_Few.G} {g10 : transomlaw12_awake.G} {g11 : transomlaw12_Rises.G} {g15 : sheet_Merge.G} {g16 : transomref12_Merge.G} {g17 : transomref12_SameLines.G} {s0 : S0} {s1 : S1} {s2 : S2} {s3 : S3} {x0 : List D_api_Line} {x1 : Int} {x2 : ByteArray} {x3 : Int} {x4 : List D_api_Col} {x5 : List D_api_Line} {x6 : ByteArray} {x7 : Int} {x8 : List D_api_Col} {x9 : List D_api_Line} : evAt (env g7 g10 g11 g15 g16 g17 s0 s1 s2 s3) [1, 1, 1, 1, 1] [2, 3, 5, 6] [.v (.one (.ptr 0 0)), .v (.one (.ptr 1 0)), .v (.one (.d (.sl T_api_Line) x0)), .v (.one (.d (.int .i64) x1))] [some (.box [(.d .str x2), (.d (.int .i64) x3), (.d (.sl T_api_Col) x4), (.d (.sl T_api_Line) x5)]), some (.box [(.d .str x6), (.d (.int .i64) x7), (.d (.sl T_api_Col) x8), (.d (.sl T_api_Line) x9)])] some = s3c g7 g10 g11 g15 g16 g17 s0 s1 s2 s3 x0 x1 x2 x3 x4 x5 x6 x7 x8 x9 (fun r => some ⟨.v (.one (.d .bool r)), []⟩) := by
  kernel_rfl
mutual
def s0 : Nat → Bool → ByteArray → Int → (List D_api_Col) → (List D_api_Line) → ByteArray → Int → (List D_api_Col) → (List D_api_Line) → Option Bool
  | 0, _, _, _, _, _, _, _, _, _ => none
  | k + 1, x0, x1, x2, x3, x4, x5, x6, x7, x8 => s0c (transomlaw12_Few.f k) (transomlaw12_awake.f k) (transomlaw12_Rises.f k) (sheet_Merge.f k) (transomref12_Merge.f k) (transomref12_SameLines.f k) (s0 k) (s1 k) (s2 k) (s3 k) x0 x1 x2 x3 x4 x5 x6 x7 x8 some
def s1 : Nat → ByteArray → Int → (List D_api_Col) → (List D_api_Line) → ByteArray → Int → (List D_api_Col) → (List D_api_Line) → Option Bool
  | 0, _, _, _, _, _, _, _, _ => none
  | k + 1, x0, x1, x2, x3, x4, x5, x6, x7 => s1c (transomlaw12_Few.f k) (transomlaw12_awake.f k) (transomlaw12_Rises.f k) (sheet_Merge.f k) (transomref12_Merge.f k) (transomref12_SameLines.f k) (s0 k) (s1 k) (s2 k) (s3 k) x0 x1 x2 x3 x4 x5 x6 x7 some
def s2 : Nat → (List D_api_Line) → Int → Bool → ByteArray → Int → (List D_api_Col) → (List D_api_Line) → ByteArray → Int → (List D_api_Col) → (List D_api_Line) → Option Bool
  | 0, _, _, _, _, _, _, _, _, _, _, _ => none
  | k + 1, x0, x1, x2, x3, x4, x5, x6, x7, x8, x9, x10 => s2c (transomlaw12_Few.f k) (transomlaw12_awake.f k) (transomlaw12_Rises.f k) (sheet_Merge.f k) (transomref12_Merge.f k) (transomref12_SameLines.f k) (s0 k) (s1 k) (s2 k) (s3 k) x0 x1 x2 x3 x4 x5 x6 x7 x8 x9 x10 some
def s3 : Nat → (List D_api_Line) → Int → ByteArray → Int → (List D_api_Col) → (List D_api_Line) → ByteArray → Int → (List D_api_Col) → (List D_api_Line) → Option Bool
  | 0, _, _, _, _, _, _, _, _, _, _ => none
  | k + 1, x0, x1, x2, x3, x4, x5, x6, x7, x8, x9 => s3c (transomlaw12_Few.f k) (transomlaw12_awake.f k) (transomlaw12_Rises.f k) (sheet_Merge.f k) (transomref12_Merge.f k) (transomref12_SameLines.f k) (s0 k) (s1 k) (s2 k) (s3 k) x0 x1 x2 x3 x4 x5 x6 x7 x8 x9 some
end
def f (k : Nat) (a0 : ByteArray) (a1 : Int) (a2 : List D_api_Col) (a3 : List D_api_Line) (a4 : ByteArray) (a5 : Int) (a6 : List D_api_Col) (a7 : List D_api_Line) : Option Bool := c (transomlaw12_Few.f k) (transomlaw12_awake.f k) (transomlaw12_Rises.f k) (sheet_Merge.f k) (transomref12_Merge.f k) (transomref12_SameLines.f k) (s0 k) (s1 k) (s2 k) (s3 k) a0 a1 a2 a3 a4 a5 a6 a7 some
theorem is {g7 : transomlaw12_Few.G} {g10 : transomlaw12_awake.G} {g11 : transomlaw12_Rises.G} {g15 : sheet_Merge.G} {g16 : transomref12_Merge.G} {g17 : transomref12_SameLines.G} {s0 : S0} {s1 : S1} {s2 : S2} {s3 : S3} : FnIs (env g7 g10 g11 g15 g16 g17 s0 s1 s2 s3) 5 f5 := ⟨func5, rfl, rfl, rfl, by decide⟩
theorem envok {g7 : transomlaw12_Few.G} {g10 : transomlaw12_awake.G} {g11 : transomlaw12_Rises.G} {g15 : sheet_Merge.G} {g16 : transomref12_Merge.G} {g17 : transomref12_SameLines.G} {s0 : S0} {s1 : S1} {s2 : S2} {s3 : S3} (h7 : CtOK prog 7 (transomlaw12_Few.ct g7)) (h10 : CtOK prog 10 (transomlaw12_awake.ct g10)) (h11 : CtOK prog 11 (transomlaw12_Rises.ct g11)) (h15 : CtOK prog 15 (sheet_Merge.ct g15)) (h16 : CtOK prog 16 (transomref12_Merge.ct g16)) (h17 : CtOK prog 17 (transomref12_SameLines.ct g17)) : EnvOK (env g7 g10 g11 g15 g16 g17 s0 s1 s2 s3).toEnv := by
  intro f c h
  simp only [env] at h
  split at h
  · rename_i e; subst e; cases h; exact h7
  split at h
  · rename_i e; subst e; cases h; exact h10
  split at h
  · rename_i e; subst e; cases h; exact h11
  split at h
  · rename_i e; subst e; cases h; exact h15
  split at h
  · rename_i e; subst e; cases h; exact h16
  split at h
  · rename_i e; subst e; cases h; exact h17
  simp at h
noncomputable abbrev E (k : Nat) : FEnv := env (transomlaw12_Few.f k) (transomlaw12_awake.f k) (transomlaw12_Rises.f k) (sheet_Merge.f k) (transomref12_Merge.f k) (transomref12_SameLines.f k) (s0 k) (s1 k) (s2 k) (s3 k)
theorem hE (k : Nat) : EnvOK (E k).toEnv := envok (transomlaw12_Few.ok k) (transomlaw12_awake.ok k) (transomlaw12_Rises.ok k) (sheet_Merge.ok k) (transomref12_Merge.ok k) (transomref12_SameLines.ok k)
theorem segs_ok : ∀ k, ∀ s ∈ (E k).segs, SegOK (E k) f5 s
  | 0 => by
    intro s hs
    simp only [E, env, List.mem_cons, List.not_mem_nil, or_false] at hs
    rcases hs with rfl | rfl | rfl | rfl
    · intro tvs blks res h; exfalso; simp only [sg0] at h; split at h <;> simp [s0] at h
    · intro tvs blks res h; exfalso; simp only [sg1] at h; split at h <;> simp [s1] at h
    · intro tvs blks res h; exfalso; simp only [sg2] at h; split at h <;> simp [s2] at h
    · intro tvs blks res h; exfalso; simp only [sg3] at h; split at h <;> simp [s3] at h
  | k + 1 => by
    intro s hs
    simp only [E, env, List.mem_cons, List.not_mem_nil, or_false] at hs
    rcases hs with rfl | rfl | rfl | rfl
    · refine seg_of_ev (E := E k) (hE k) ⟨is.rvs⟩ (segs_ok k) ?_
      intro tvs blks res h
      simp only [sg0] at h
      split at h
      · exact (s0_ev.trans s0c_bind).trans h
      · simp at h
    · refine seg_of_ev (E := E k) (hE k) ⟨is.rvs⟩ (segs_ok k) ?_
      intro tvs blks res h
      simp only [sg1] at h
      split at h
      · exact (s1_ev.trans s1c_bind).trans h
      · simp at h
    · refine seg_of_ev (E := E k) (hE k) ⟨is.rvs⟩ (segs_ok k) ?_
      intro tvs blks res h
      simp only [sg2] at h
      split at h
      · exact (s2_ev.trans s2c_bind).trans h
      · simp at h
    · refine seg_of_ev (E := E k) (hE k) ⟨is.rvs⟩ (segs_ok k) ?_
      intro tvs blks res h
      simp only [sg3] at h
      split at h
      · exact (s3_ev.trans s3c_bind).trans h
      · simp at h
theorem ok (k : Nat) : CtOK prog 5 (ct (f k)) := by
  refine ct_of_ev (E := E k) is (hE k) (segs_ok k) rfl ?_
  intro tvs blks res h
  simp only [ct] at h
  split at h
  · exact (ev.trans c_bind).trans h
  · simp at h
end transomlaw12_SheetMerges
end Go.Proofs.YtdbbkmmillnaiaaDoor.Aev
