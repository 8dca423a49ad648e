/- By a program of this session (AEV): functions of the program as plain functions, and that the machine does what they say. -/
import Derived.Test.YtdbbkmmillnaiaaGreatDoorTys
import Derived.Test.YtdbbkmmillnaiaaGreatDoorProg
import Derived.Laws.Externs
import Derived.Lib.Bytealg
import Derived.Test.YtdbbkmmillnaiaaGreatDoorF0
import Derived.Test.YtdbbkmmillnaiaaGreatDoorAevY
import Derived.Below
import Derived.LaidEql
import Derived.RowKitTokens
import Derived.Stop.Asserts
import Derived.WalkKit
namespace Go.Proofs.YtdbbkmmillnaiaaGreatDoor.Aev
set_option linter.unusedVariables false
set_option linter.unusedSimpArgs false
set_option maxRecDepth 100000
set_option maxHeartbeats 4000000
open Go Go.Proofs.Tryz
namespace transomlaw12_Few
abbrev G : Type := ByteArray → Int → (List D_api_Col) → (List D_api_Line) → Option Int
def ct (g : G) : Ct where
  nin := 0
  mv := []
  F := fun tvs blks {β} K => match tvs, blks with
    | [.v (.agg [(.d .str a0), (.d (.int .i64) a1), (.d (.sl (.pair .str (.pair (.int .i64) (.pair .bool (.pair (.pair (.int .i64) (.pair (.int .i64) (.pair (.int .u64) (.pair .str .unit)))) .unit))))) a2), (.d (.sl (.pair .str (.pair (.sl (.pair (.int .i64) (.pair (.int .i64) (.pair (.int .u64) (.pair .str .unit))))) .unit))) a3)])], [] => (g a0 a1 a2 a3).bind fun r => K ⟨.v (.one (.d (.int .i64) r)), []⟩
    | _, _ => none
  legit := fun _ _ K _ h => by split at h; exact (legit1 K h :); simp at h
abbrev S0 : Type := Bool → ByteArray → Int → (List D_api_Col) → (List D_api_Line) → Option Int
abbrev S1 : Type := ByteArray → Int → (List D_api_Col) → (List D_api_Line) → Option Int
abbrev S2 : Type := Int → ByteArray → Int → (List D_api_Col) → (List D_api_Line) → Option Int
abbrev S3 : Type := Int → Bool → ByteArray → Int → (List D_api_Col) → (List D_api_Line) → Option Int
abbrev S4 : Type := Int → ByteArray → Int → (List D_api_Col) → (List D_api_Line) → Option Int
def sg0 (g : S0) : Seg where
  path := [1, 0, 1]
  prep := []
  keep := [1, 13]
  F := fun tvs blks {β} K => match tvs, blks with
    | [.v (.one (.ptr 0 0)), .v (.one (.d .bool x0))], [some (.box [(.d .str x1), (.d (.int .i64) x2), (.d (.sl (.pair .str (.pair (.int .i64) (.pair .bool (.pair (.pair (.int .i64) (.pair (.int .i64) (.pair (.int .u64) (.pair .str .unit)))) .unit))))) x3), (.d (.sl (.pair .str (.pair (.sl (.pair (.int .i64) (.pair (.int .i64) (.pair (.int .u64) (.pair .str .unit))))) .unit))) x4)])] => (g x0 x1 x2 x3 x4).bind fun r => K ⟨.v (.one (.d (.int .i64) r)), []⟩
    | _, _ => none
  legit := fun _ _ K _ h => by split at h; exact (legit1 K h :); simp at h
def sg1 (g : S1) : Seg where
  path := [1, 1]
  prep := []
  keep := [1]
  F := fun tvs blks {β} K => match tvs, blks with
    | [.v (.one (.ptr 0 0))], [some (.box [(.d .str x0), (.d (.int .i64) x1), (.d (.sl (.pair .str (.pair (.int .i64) (.pair .bool (.pair (.pair (.int .i64) (.pair (.int .i64) (.pair (.int .u64) (.pair .str .unit)))) .unit))))) x2), (.d (.sl (.pair .str (.pair (.sl (.pair (.int .i64) (.pair (.int .i64) (.pair (.int .u64) (.pair .str .unit))))) .unit))) x3)])] => (g x0 x1 x2 x3).bind fun r => K ⟨.v (.one (.d (.int .i64) r)), []⟩
    | _, _ => none
  legit := fun _ _ K _ h => by split at h; exact (legit1 K h :); simp at h
def sg2 (g : S2) : Seg where
  path := [4, 1, 0, 1, 1]
  prep := []
  keep := [1, 3]
  F := fun tvs blks {β} K => match tvs, blks with
    | [.v (.one (.ptr 0 0)), .v (.one (.d (.int .i64) x0))], [some (.box [(.d .str x1), (.d (.int .i64) x2), (.d (.sl (.pair .str (.pair (.int .i64) (.pair .bool (.pair (.pair (.int .i64) (.pair (.int .i64) (.pair (.int .u64) (.pair .str .unit)))) .unit))))) x3), (.d (.sl (.pair .str (.pair (.sl (.pair (.int .i64) (.pair (.int .i64) (.pair (.int .u64) (.pair .str .unit))))) .unit))) x4)])] => (g x0 x1 x2 x3 x4).bind fun r => K ⟨.v (.one (.d (.int .i64) r)), []⟩
    | _, _ => none
  legit := fun _ _ K _ h => by split at h; exact (legit1 K h :); simp at h
def sg3 (g : S3) : Seg where
  path := [1, 4, 0, 1, 5, 4, 1, 0, 1, 1]
  prep := []
  keep := [1, 3, 38]
  F := fun tvs blks {β} K => match tvs, blks with
    | [.v (.one (.ptr 0 0)), .v (.one (.d (.int .i64) x0)), .v (.one (.d .bool x1))], [some (.box [(.d .str x2), (.d (.int .i64) x3), (.d (.sl (.pair .str (.pair (.int .i64) (.pair .bool (.pair (.pair (.int .i64) (.pair (.int .i64) (.pair (.int .u64) (.pair .str .unit)))) .unit))))) x4), (.d (.sl (.pair .str (.pair (.sl (.pair (.int .i64) (.pair (.int .i64) (.pair (.int .u64) (.pair .str .unit))))) .unit))) x5)])] => (g x0 x1 x2 x3 x4 x5).bind fun r => K ⟨.v (.one (.d (.int .i64) r)), []⟩
    | _, _ => none
  legit := fun _ _ K _ h => by split at h; exact (legit1 K h :); simp at h
def sg4 (g : S4) : Seg where
  path := [1, 1, 5, 4, 1, 0, 1, 1]
  prep := []
  keep := [1, 3]
  F := fun tvs blks {β} K => match tvs, blks with
    | [.v (.one (.ptr 0 0)), .v (.one (.d (.int .i64) x0))], [some (.box [(.d .str x1), (.d (.int .i64) x2), (.d (.sl (.pair .str (.pair (.int .i64) (.pair .bool (.pair (.pair (.int .i64) (.pair (.int .i64) (.pair (.int .u64) (.pair .str .unit)))) .unit))))) x3), (.d (.sl (.pair .str (.pair (.sl (.pair (.int .i64) (.pair (.int .i64) (.pair (.int .u64) (.pair .str .unit))))) .unit))) x4)])] => (g x0 x1 x2 x3 x4).bind fun r => K ⟨.v (.one (.d (.int .i64) r)), []⟩
    | _, _ => none
  legit := fun _ _ K _ h => by split at h; exact (legit1 K h :); simp at h
noncomputable def env (g6 : transomlaw05_Few.G) (g15 : transomlaw09_Few.G) (s0 : S0) (s1 : S1) (s2 : S2) (s3 : S3) (s4 : S4) : FEnv := { P := prog, ct := fun m => if m = 6 then some (transomlaw05_Few.ct g6) else if m = 15 then some (transomlaw09_Few.ct g15) else none, N := 39, body := f4.body.getD .skip, rvs := [.tmp 2], rts := [3], nin := 0, rmv := [], segs := [sg0 s0, sg1 s1, sg2 s2, sg3 s3, sg4 s4] }
def c {β : Type} (g6 : transomlaw05_Few.G) (g15 : transomlaw09_Few.G) (s0 : S0) (s1 : S1) (s2 : S2) (s3 : S3) (s4 : S4) (a0 : ByteArray) (a1 : Int) (a2 : List D_api_Col) (a3 : List D_api_Line) (ret : Int → Option β) : Option β := ((g15 a0 a1 a2).bind fun r0 => (bif (r0 == (0 : Int)) then ((s0 true a0 a1 a2 a3).bind ret) else ((s0 (decide (((List.length a3) : Int) > (40 : Int))) a0 a1 a2 a3).bind ret)))
def s0c {β : Type} (g6 : transomlaw05_Few.G) (g15 : transomlaw09_Few.G) (s0 : S0) (s1 : S1) (s2 : S2) (s3 : S3) (s4 : S4) (x0 : Bool) (x1 : ByteArray) (x2 : Int) (x3 : List D_api_Col) (x4 : List D_api_Line) (ret : Int → Option β) : Option β := (bif x0 then (ret ((0 : Int))) else ((s1 x1 x2 x3 x4).bind ret))
def s1c {β : Type} (g6 : transomlaw05_Few.G) (g15 : transomlaw09_Few.G) (s0 : S0) (s1 : S1) (s2 : S2) (s3 : S3) (s4 : S4) (x0 : ByteArray) (x1 : Int) (x2 : List D_api_Col) (x3 : List D_api_Line) (ret : Int → Option β) : Option β := ((s2 (0 : Int) x0 x1 x2 x3).bind ret)
def s2c {β : Type} (g6 : transomlaw05_Few.G) (g15 : transomlaw09_Few.G) (s0 : S0) (s1 : S1) (s2 : S2) (s3 : S3) (s4 : S4) (x0 : Int) (x1 : ByteArray) (x2 : Int) (x3 : List D_api_Col) (x4 : List D_api_Line) (ret : Int → Option β) : Option β := (bif (decide (x0 < ((List.length x4) : Int))) then (bif ((decide ((0 : Int) ≤ x0)) && (decide (x0 < ((List.length x4) : Int)))) then (bif (decide (((ByteArray.size (elem T_api_Line x4 x0).1) : Int) > (2000 : Int))) then ((s3 x0 true x1 x2 x3 x4).bind ret) else (bif ((decide ((0 : Int) ≤ x0)) && (decide (x0 < ((List.length x4) : Int)))) then ((g6 (elem T_api_Line x4 x0).2.1).bind fun r0 => ((s3 x0 (r0 == (0 : Int)) x1 x2 x3 x4).bind ret)) else none)) else none) else (ret ((1 : Int))))
def s3c {β : Type} (g6 : transomlaw05_Few.G) (g15 : transomlaw09_Few.G) (s0 : S0) (s1 : S1) (s2 : S2) (s3 : S3) (s4 : S4) (x0 : Int) (x1 : Bool) (x2 : ByteArray) (x3 : Int) (x4 : List D_api_Col) (x5 : List D_api_Line) (ret : Int → Option β) : Option β := (bif x1 then (ret ((0 : Int))) else ((s4 x0 x2 x3 x4 x5).bind ret))
def s4c {β : Type} (g6 : transomlaw05_Few.G) (g15 : transomlaw09_Few.G) (s0 : S0) (s1 : S1) (s2 : S2) (s3 : S3) (s4 : S4) (x0 : Int) (x1 : ByteArray) (x2 : Int) (x3 : List D_api_Col) (x4 : List D_api_Line) (ret : Int → Option β) : Option β := ((s2 (IntKind.wrap IntKind.i64 (x0 + (1 : Int))) x1 x2 x3 x4).bind ret)
theorem c_bind {β : Type} {g6 : transomlaw05_Few.G} {g15 : transomlaw09_Few.G} {s0 : S0} {s1 : S1} {s2 : S2} {s3 : S3} {s4 : S4} {a0 : ByteArray} {a1 : Int} {a2 : List D_api_Col} {a3 : List D_api_Line} {ret : Int → Option β} : c g6 g15 s0 s1 s2 s3 s4 a0 a1 a2 a3 ret = (c g6 g15 s0 s1 s2 s3 s4 a0 a1 a2 a3 some).bind ret := by
  simp only [c, bif_bind, sum_bind, oa, os, on, ofs]
theorem s0c_bind {β : Type} {g6 : transomlaw05_Few.G} {g15 : transomlaw09_Few.G} {s0 : S0} {s1 : S1} {s2 : S2} {s3 : S3} {s4 : S4} {x0 : Bool} {x1 : ByteArray} {x2 : Int} {x3 : List D_api_Col} {x4 : List D_api_Line} {ret : Int → Option β} : s0c g6 g15 s0 s1 s2 s3 s4 x0 x1 x2 x3 x4 ret = (s0c g6 g15 s0 s1 s2 s3 s4 x0 x1 x2 x3 x4 some).bind ret := by
  simp only [s0c, bif_bind, sum_bind, oa, os, on, ofs]
theorem s1c_bind {β : Type} {g6 : transomlaw05_Few.G} {g15 : transomlaw09_Few.G} {s0 : S0} {s1 : S1} {s2 : S2} {s3 : S3} {s4 : S4} {x0 : ByteArray} {x1 : Int} {x2 : List D_api_Col} {x3 : List D_api_Line} {ret : Int → Option β} : s1c g6 g15 s0 s1 s2 s3 s4 x0 x1 x2 x3 ret = (s1c g6 g15 s0 s1 s2 s3 s4 x0 x1 x2 x3 some).bind ret := by
  simp only [s1c, bif_bind, sum_bind, oa, os, on, ofs]
theorem s2c_bind {β : Type} {g6 : transomlaw05_Few.G} {g15 : transomlaw09_Few.G} {s0 : S0} {s1 : S1} {s2 : S2} {s3 : S3} {s4 : S4} {x0 : Int} {x1 : ByteArray} {x2 : Int} {x3 : List D_api_Col} {x4 : List D_api_Line} {ret : Int → Option β} : s2c g6 g15 s0 s1 s2 s3 s4 x0 x1 x2 x3 x4 ret = (s2c g6 g15 s0 s1 s2 s3 s4 x0 x1 x2 x3 x4 some).bind ret := by
  simp only [s2c, bif_bind, sum_bind, oa, os, on, ofs]
theorem s3c_bind {β : Type} {g6 : transomlaw05_Few.G} {g15 : transomlaw09_Few.G} {s0 : S0} {s1 : S1} {s2 : S2} {s3 : S3} {s4 : S4} {x0 : Int} {x1 : Bool} {x2 : ByteArray} {x3 : Int} {x4 : List D_api_Col} {x5 : List D_api_Line} {ret : Int → Option β} : s3c g6 g15 s0 s1 s2 s3 s4 x0 x1 x2 x3 x4 x5 ret = (s3c g6 g15 s0 s1 s2 s3 s4 x0 x1 x2 x3 x4 x5 some).bind ret := by
  simp only [s3c, bif_bind, sum_bind, oa, os, on, ofs]
theorem s4c_bind {β : Type} {g6 : transomlaw05_Few.G} {g15 : transomlaw09_Few.G} {s0 : S0} {s1 : S1} {s2 : S2} {s3 : S3} {s4 : S4} {x0 : Int} {x1 : ByteArray} {x2 : Int} {x3 : List D_api_Col} {x4 : List D_api_Line} {ret : Int → Option β} : s4c g6 g15 s0 s1 s2 s3 s4 x0 x1 x2 x3 x4 ret = (s4c g6 g15 s0 s1 s2 s3 s4 x0 x1 x2 x3 x4 some).bind ret := by
  simp only [s4c, bif_bind, sum_bind, oa, os, on, ofs]
theorem ev {g6 : transomlaw05_Few.G} {g15 : transomlaw09_Few.G} {s0 : S0} {s1 : S1} {s2 : S2} {s3 : S3} {s4 : S4} {a0 : ByteArray} {a1 : Int} {a2 : List D_api_Col} {a3 : List D_api_Line} : evAt (env g6 g15 s0 s1 s2 s3 s4) [] [0] [.v (.agg [(.d .str a0), (.d (.int .i64) a1), (.d (.sl T_api_Col) a2), (.d (.sl T_api_Line) a3)])] [] some = c g6 g15 s0 s1 s2 s3 s4 a0 a1 a2 a3 (fun r => some ⟨.v (.one (.d (.int .i64) r)), []⟩) := by
  kernel_rfl
theorem s0_ev {g6 : transomlaw05_Few.G} {g15 : transomlaw09_Few.G} {s0 : S0} {s1 : S1} {s2 : S2} {s3 : S3} {s4 : S4} {x0 : Bool} {x1 : ByteArray} {x2 : Int} {x3 : List D_api_Col} {x4 : List D_api_Line} : evAt (env g6 g15 s0 s1 s2 s3 s4) [1, 0, 1] [1, 13] [.v (.one (.ptr 0 0)), .v (.one (.d .bool x0))] [some (.box [(.d .str x1), (.d (.int .i64) x2), (.d (.sl T_api_Col) x3), (.d (.sl T_api_Line) x4)])] some = s0c g6 g15 s0 s1 s2 s3 s4 x0 x1 x2 x3 x4 (fun r => some ⟨.v (.one (.d (.int .i64) r)), []⟩) := by
  kernel_rfl
theorem s1_ev {g6 : transomlaw05_Few.G} {g15 : transomlaw09_Few.G} {s0 : S0} {s1 : S1} {s2 : S2} {s3 : S3} {s4 : S4} {x0 : ByteArray} {x1 : Int} {x2 : List D_api_Col} {x3 : List D_api_Line} : evAt (env g6 g15 s0 s1 s2 s3 s4) [1, 1] [1] [.v (.one (.ptr 0 0))] [some (.box [(.d .str x0), (.d (.int .i64) x1), (.d (.sl T_api_Col) x2), (.d (.sl T_api_Line) x3)])] some = s1c g6 g15 s0 s1 s2 s3 s4 x0 x1 x2 x3 (fun r => some ⟨.v (.one (.d (.int .i64) r)), []⟩) := by
  kernel_rfl
theorem s2_ev {g6 : transomlaw05_Few.G} {g15 : transomlaw09_Few.G} {s0 : S0} {s1 : S1} {s2 : S2} {s3 : S3} {s4 : S4} {x0 : Int} {x1 : ByteArray} {x2 : Int} {x3 : List D_api_Col} {x4 : List D_api_Line} : evAt (env g6 g15 s0 s1 s2 s3 s4) [4, 1, 0, 1, 1] [1, 3] [.v (.one (.ptr 0 0)), .v (.one (.d (.int .i64) x0))] [some (.box [(.d .str x1), (.d (.int .i64) x2), (.d (.sl T_api_Col) x3), (.d (.sl T_api_Line) x4)])] some = s2c g6 g15 s0 s1 s2 s3 s4 x0 x1 x2 x3 x4 (fun r => some ⟨.v (.one (.d (.int .i64) r)), []⟩) := by
  kernel_rfl
theorem s3_ev {g6 : transomlaw05_Few.G} {g15 : transomlaw09_Few.G} {s0 : S0} {s1 : S1} {s2 : S2} {s3 : S3} {s4 : S4} {x0 : Int} {x1 : Bool} {x2 : ByteArray} {x3 : Int} {x4 : List D_api_Col} {x5 : List D_api_Line} : evAt (env g6 g15 s0 s1 s2 s3 s4) [1, 4, 0, 1, 5, 4, 1, 0, 1, 1] [1, 3, 38] [.v (.one (.ptr 0 0)), .v (.one (.d (.int .i64) x0)), .v (.one (.d .bool x1))] [some (.box [(.d .str x2), (.d (.int .i64) x3), (.d (.sl T_api_Col) x4), (.d (.sl T_api_Line) x5)])] some = s3c g6 g15 s0 s1 s2 s3 s4 x0 x1 x2 x3 x4 x5 (fun r => some ⟨.v (.one (.d (.int .i64) r)), []⟩) := by
  kernel_rfl
theorem s4_ev {g6 : transomlaw05_Few.G} {g15 : transomlaw09_Few.G} {s0 : S0} {s1 : S1} {s2 : S2} {s3 : S3} {s4 : S4} {x0 : Int} {x1 : ByteArray} {x2 : Int} {x3 : List D_api_Col} {x4 : List D_api_Line} : evAt (env g6 g15 s0 s1 s2 s3 s4) [1, 1, 5, 4, 1, 0, 1, 1] [1, 3] [.v (.one (.ptr 0 0)), .v (.one (.d (.int .i64) x0))] [some (.box [(.d .str x1), (.d (.int .i64) x2), (.d (.sl T_api_Col) x3), (.d (.sl T_api_Line) x4)])] some = s4c g6 g15 s0 s1 s2 s3 s4 x0 x1 x2 x3 x4 (fun r => some ⟨.v (.one (.d (.int .i64) r)), []⟩) := by
  kernel_rfl
mutual
def s0 : Nat → Bool → ByteArray → Int → (List D_api_Col) → (List D_api_Line) → Option Int
  | 0, _, _, _, _, _ => none
  | k + 1, x0, x1, x2, x3, x4 => s0c (transomlaw05_Few.f k) (transomlaw09_Few.f k) (s0 k) (s1 k) (s2 k) (s3 k) (s4 k) x0 x1 x2 x3 x4 some
def s1 : Nat → ByteArray → Int → (List D_api_Col) → (List D_api_Line) → Option Int
  | 0, _, _, _, _ => none
  | k + 1, x0, x1, x2, x3 => s1c (transomlaw05_Few.f k) (transomlaw09_Few.f k) (s0 k) (s1 k) (s2 k) (s3 k) (s4 k) x0 x1 x2 x3 some
def s2 : Nat → Int → ByteArray → Int → (List D_api_Col) → (List D_api_Line) → Option Int
  | 0, _, _, _, _, _ => none
  | k + 1, x0, x1, x2, x3, x4 => s2c (transomlaw05_Few.f k) (transomlaw09_Few.f k) (s0 k) (s1 k) (s2 k) (s3 k) (s4 k) x0 x1 x2 x3 x4 some
def s3 : Nat → Int → Bool → ByteArray → Int → (List D_api_Col) → (List D_api_Line) → Option Int
  | 0, _, _, _, _, _, _ => none
  | k + 1, x0, x1, x2, x3, x4, x5 => s3c (transomlaw05_Few.f k) (transomlaw09_Few.f k) (s0 k) (s1 k) (s2 k) (s3 k) (s4 k) x0 x1 x2 x3 x4 x5 some
def s4 : Nat → Int → ByteArray → Int → (List D_api_Col) → (List D_api_Line) → Option Int
  | 0, _, _, _, _, _ => none
  | k + 1, x0, x1, x2, x3, x4 => s4c (transomlaw05_Few.f k) (transomlaw09_Few.f k) (s0 k) (s1 k) (s2 k) (s3 k) (s4 k) x0 x1 x2 x3 x4 some
end
def f (k : Nat) (a0 : ByteArray) (a1 : Int) (a2 : List D_api_Col) (a3 : List D_api_Line) : Option Int := c (transomlaw05_Few.f k) (transomlaw09_Few.f k) (s0 k) (s1 k) (s2 k) (s3 k) (s4 k) a0 a1 a2 a3 some
theorem is {g6 : transomlaw05_Few.G} {g15 : transomlaw09_Few.G} {s0 : S0} {s1 : S1} {s2 : S2} {s3 : S3} {s4 : S4} : FnIs (env g6 g15 s0 s1 s2 s3 s4) 4 f4 := ⟨func4, rfl, rfl, rfl, by decide⟩
theorem envok {g6 : transomlaw05_Few.G} {g15 : transomlaw09_Few.G} {s0 : S0} {s1 : S1} {s2 : S2} {s3 : S3} {s4 : S4} (h6 : CtOK prog 6 (transomlaw05_Few.ct g6)) (h15 : CtOK prog 15 (transomlaw09_Few.ct g15)) : EnvOK (env g6 g15 s0 s1 s2 s3 s4).toEnv := by
  intro f c h
  simp only [env] at h
  split at h
  · rename_i e; subst e; cases h; exact h6
  split at h
  · rename_i e; subst e; cases h; exact h15
  simp at h
noncomputable abbrev E (k : Nat) : FEnv := env (transomlaw05_Few.f k) (transomlaw09_Few.f k) (s0 k) (s1 k) (s2 k) (s3 k) (s4 k)
theorem hE (k : Nat) : EnvOK (E k).toEnv := envok (transomlaw05_Few.ok k) (transomlaw09_Few.ok k)
theorem segs_ok : ∀ k, ∀ s ∈ (E k).segs, SegOK (E k) f4 s
  | 0 => by
    intro s hs
    simp only [E, env, List.mem_cons, List.not_mem_nil, or_false] at hs
    rcases hs with rfl | rfl | rfl | rfl | rfl
    · intro tvs blks res h; exfalso; simp only [sg0] at h; split at h <;> simp [s0] at h
    · intro tvs blks res h; exfalso; simp only [sg1] at h; split at h <;> simp [s1] at h
    · intro tvs blks res h; exfalso; simp only [sg2] at h; split at h <;> simp [s2] at h
    · intro tvs blks res h; exfalso; simp only [sg3] at h; split at h <;> simp [s3] at h
    · intro tvs blks res h; exfalso; simp only [sg4] at h; split at h <;> simp [s4] at h
  | k + 1 => by
    intro s hs
    simp only [E, env, List.mem_cons, List.not_mem_nil, or_false] at hs
    rcases hs with rfl | rfl | rfl | rfl | rfl
    · refine seg_of_ev (E := E k) (hE k) ⟨is.rvs⟩ (segs_ok k) ?_
      intro tvs blks res h
      simp only [sg0] at h
      split at h
      · exact (s0_ev.trans s0c_bind).trans h
      · simp at h
    · refine seg_of_ev (E := E k) (hE k) ⟨is.rvs⟩ (segs_ok k) ?_
      intro tvs blks res h
      simp only [sg1] at h
      split at h
      · exact (s1_ev.trans s1c_bind).trans h
      · simp at h
    · refine seg_of_ev (E := E k) (hE k) ⟨is.rvs⟩ (segs_ok k) ?_
      intro tvs blks res h
      simp only [sg2] at h
      split at h
      · exact (s2_ev.trans s2c_bind).trans h
      · simp at h
    · refine seg_of_ev (E := E k) (hE k) ⟨is.rvs⟩ (segs_ok k) ?_
      intro tvs blks res h
      simp only [sg3] at h
      split at h
      · exact (s3_ev.trans s3c_bind).trans h
      · simp at h
    · refine seg_of_ev (E := E k) (hE k) ⟨is.rvs⟩ (segs_ok k) ?_
      intro tvs blks res h
      simp only [sg4] at h
      split at h
      · exact (s4_ev.trans s4c_bind).trans h
      · simp at h
theorem ok (k : Nat) : CtOK prog 4 (ct (f k)) := by
  refine ct_of_ev (E := E k) is (hE k) (segs_ok k) rfl ?_
  intro tvs blks res h
  simp only [ct] at h
  split at h
  · exact (ev.trans c_bind).trans h
  · simp at h
end transomlaw12_Few
namespace transomlaw12_Rises
abbrev G : Type := ByteArray → Int → (List D_api_Col) → (List D_api_Line) → Option Int
def ct (g : G) : Ct where
  nin := 0
  mv := []
  F := fun tvs blks {β} K => match tvs, blks with
    | [.v (.agg [(.d .str a0), (.d (.int .i64) a1), (.d (.sl (.pair .str (.pair (.int .i64) (.pair .bool (.pair (.pair (.int .i64) (.pair (.int .i64) (.pair (.int .u64) (.pair .str .unit)))) .unit))))) a2), (.d (.sl (.pair .str (.pair (.sl (.pair (.int .i64) (.pair (.int .i64) (.pair (.int .u64) (.pair .str .unit))))) .unit))) a3)])], [] => (g a0 a1 a2 a3).bind fun r => K ⟨.v (.one (.d (.int .i64) r)), []⟩
    | _, _ => none
  legit := fun _ _ K _ h => by split at h; exact (legit1 K h :); simp at h
abbrev S0 : Type := Int → ByteArray → Int → (List D_api_Col) → (List D_api_Line) → Option Int
def sg0 (g : S0) : Seg where
  path := [4, 1, 0, 1]
  prep := []
  keep := [1, 3]
  F := fun tvs blks {β} K => match tvs, blks with
    | [.v (.one (.ptr 0 0)), .v (.one (.d (.int .i64) x0))], [some (.box [(.d .str x1), (.d (.int .i64) x2), (.d (.sl (.pair .str (.pair (.int .i64) (.pair .bool (.pair (.pair (.int .i64) (.pair (.int .i64) (.pair (.int .u64) (.pair .str .unit)))) .unit))))) x3), (.d (.sl (.pair .str (.pair (.sl (.pair (.int .i64) (.pair (.int .i64) (.pair (.int .u64) (.pair .str .unit))))) .unit))) x4)])] => (g x0 x1 x2 x3 x4).bind fun r => K ⟨.v (.one (.d (.int .i64) r)), []⟩
    | _, _ => none
  legit := fun _ _ K _ h => by split at h; exact (legit1 K h :); simp at h
noncomputable def env  (s0 : S0) : FEnv := { P := prog, ct := fun m => none, N := 25, body := f5.body.getD .skip, rvs := [.tmp 2], rts := [3], nin := 0, rmv := [], segs := [sg0 s0] }
def c {β : Type}  (s0 : S0) (a0 : ByteArray) (a1 : Int) (a2 : List D_api_Col) (a3 : List D_api_Line) (ret : Int → Option β) : Option β := ((s0 (1 : Int) a0 a1 a2 a3).bind ret)
def s0c {β : Type}  (s0 : S0) (x0 : Int) (x1 : ByteArray) (x2 : Int) (x3 : List D_api_Col) (x4 : List D_api_Line) (ret : Int → Option β) : Option β := (bif (decide (x0 < ((List.length x4) : Int))) then (bif ((decide ((0 : Int) ≤ x0)) && (decide (x0 < ((List.length x4) : Int)))) then (bif ((decide ((0 : Int) ≤ (IntKind.wrap IntKind.i64 (x0 - (1 : Int))))) && (decide ((IntKind.wrap IntKind.i64 (x0 - (1 : Int))) < ((List.length x4) : Int)))) then (bif ((Op.bytesLess (ByteArray.toList (elem T_api_Line x4 x0).1) (ByteArray.toList (elem T_api_Line x4 (IntKind.wrap IntKind.i64 (x0 - (1 : Int)))).1)) || ((ByteArray.toList (elem T_api_Line x4 x0).1) == (ByteArray.toList (elem T_api_Line x4 (IntKind.wrap IntKind.i64 (x0 - (1 : Int)))).1))) then (ret ((0 : Int))) else ((s0 (IntKind.wrap IntKind.i64 (x0 + (1 : Int))) x1 x2 x3 x4).bind ret)) else none) else none) else (ret ((1 : Int))))
theorem c_bind {β : Type}  {s0 : S0} {a0 : ByteArray} {a1 : Int} {a2 : List D_api_Col} {a3 : List D_api_Line} {ret : Int → Option β} : c  s0 a0 a1 a2 a3 ret = (c  s0 a0 a1 a2 a3 some).bind ret := by
  simp only [c, bif_bind, sum_bind, oa, os, on, ofs]
theorem s0c_bind {β : Type}  {s0 : S0} {x0 : Int} {x1 : ByteArray} {x2 : Int} {x3 : List D_api_Col} {x4 : List D_api_Line} {ret : Int → Option β} : s0c  s0 x0 x1 x2 x3 x4 ret = (s0c  s0 x0 x1 x2 x3 x4 some).bind ret := by
  simp only [s0c, bif_bind, sum_bind, oa, os, on, ofs]
theorem ev  {s0 : S0} {a0 : ByteArray} {a1 : Int} {a2 : List D_api_Col} {a3 : List D_api_Line} : evAt (env  s0) [] [0] [.v (.agg [(.d .str a0), (.d (.int .i64) a1), (.d (.sl T_api_Col) a2), (.d (.sl T_api_Line) a3)])] [] some = c  s0 a0 a1 a2 a3 (fun r => some ⟨.v (.one (.d (.int .i64) r)), []⟩) := by
  kernel_rfl
theorem s0_ev  {s0 : S0} {x0 : Int} {x1 : ByteArray} {x2 : Int} {x3 : List D_api_Col} {x4 : List D_api_Line} : evAt (env  s0) [4, 1, 0, 1] [1, 3] [.v (.one (.ptr 0 0)), .v (.one (.d (.int .i64) x0))] [some (.box [(.d .str x1), (.d (.int .i64) x2), (.d (.sl T_api_Col) x3), (.d (.sl T_api_Line) x4)])] some = s0c  s0 x0 x1 x2 x3 x4 (fun r => some ⟨.v (.one (.d (.int .i64) r)), []⟩) := by
  kernel_rfl
def s0 : Nat → Int → ByteArray → Int → (List D_api_Col) → (List D_api_Line) → Option Int
  | 0, _, _, _, _, _ => none
  | k + 1, x0, x1, x2, x3, x4 => s0c  (s0 k) x0 x1 x2 x3 x4 some
def f (k : Nat) (a0 : ByteArray) (a1 : Int) (a2 : List D_api_Col) (a3 : List D_api_Line) : Option Int := c  (s0 k) a0 a1 a2 a3 some
theorem is  {s0 : S0} : FnIs (env  s0) 5 f5 := ⟨func5, rfl, rfl, rfl, by decide⟩
theorem envok  {s0 : S0}  : EnvOK (env  s0).toEnv := by
  intro f c h
  simp only [env] at h
  simp at h
noncomputable abbrev E (k : Nat) : FEnv := env  (s0 k)
theorem hE (k : Nat) : EnvOK (E k).toEnv := envok 
theorem segs_ok : ∀ k, ∀ s ∈ (E k).segs, SegOK (E k) f5 s
  | 0 => by
    intro s hs
    simp only [E, env, List.mem_cons, List.not_mem_nil, or_false] at hs
    rcases hs with rfl
    · intro tvs blks res h; exfalso; simp only [sg0] at h; split at h <;> simp [s0] at h
  | k + 1 => by
    intro s hs
    simp only [E, env, List.mem_cons, List.not_mem_nil, or_false] at hs
    rcases hs with rfl
    · refine seg_of_ev (E := E k) (hE k) ⟨is.rvs⟩ (segs_ok k) ?_
      intro tvs blks res h
      simp only [sg0] at h
      split at h
      · exact (s0_ev.trans s0c_bind).trans h
      · simp at h
theorem ok (k : Nat) : CtOK prog 5 (ct (f k)) := by
  refine ct_of_ev (E := E k) is (hE k) (segs_ok k) rfl ?_
  intro tvs blks res h
  simp only [ct] at h
  split at h
  · exact (ev.trans c_bind).trans h
  · simp at h
end transomlaw12_Rises
/-! ### schema_number: function 39 (by hand) -/
def schema_number.ct : Ct where
  nin := 0
  mv := []
  F := fun tvs blks {β} K => match tvs, blks with
    | [.v (.one (.raw .nilIface))], [] => K ⟨.v (.one (.d (.int .i64) (0 : Int))), []⟩
    | [.v (.one (.ifc 89 true (.pair (.int .i64) .unit) x))], [] => K ⟨.v (.one (.d (.int .i64) x.1)), []⟩
    | _, _ => none
  legit := fun tvs blks K r h => by
    split at h
    · exact ⟨_, rfl, h⟩
    · exact ⟨_, rfl, h⟩
    · simp at h
/-! errors.As at the one target that the program has: a variable of type bad (after the guide's worked example 'toyas') -/
section
open Go.RowKit Go.Extern.Stop Go.Stop Go.Extern
abbrev schema_number.rt (n : Nat) : Value := .pointer (some ⟨3, n, none⟩)
theorem schema_number.as_nil (t : Value) (w : World) : Calls Go.Proofs.Tryz.prog 50 #[.nilIface, t] w fun e w' => e = .returned (.bool false) ∧ w' = w := by
  go_enter Go.Proofs.Tryz.func50, Go.Proofs.Tryz.ntmps50
  go_wp2
  go_ret
  exact ⟨rfl, rfl⟩
theorem schema_number.valueOfP (t : Addr) (w : World) : (ReflectliteValue.unpack (.iface 91 (.pointer (some t)))).run Go.Proofs.Tryz.prog w
    = .ok (.agg #[schema_number.rt 91, .pointer (some ⟨w.heap.size, 0, none⟩), .int .u64 150]) (w.alloc (.cells #[.pointer (some t)] 91)) := by kernel_rfl
theorem schema_number.typeP (a : Addr) (w : World) : (ReflectliteValue.methodAny (ReflectliteValue.valueError "reflectlite.Value.Type" 0) (fun t _ _ _ => ReflectliteType.toType t) #[.agg #[schema_number.rt 91, .pointer (some a), .int .u64 150]]).run Go.Proofs.Tryz.prog w
    = .ok (.iface 130 (.agg #[schema_number.rt 91])) w := by kernel_rfl
theorem schema_number.methodKind (h : Value) (w : World) : (Go.method 283 130 (.agg #[h]) "Kind").run Go.Proofs.Tryz.prog w = .ok (112, h) w := by kernel_rfl
theorem schema_number.kindP (w : World) : ((ReflectliteType.abiMethod fun t => (fun a : Nat => Value.int IntKind.u8 (a : Int)) <$> Rtype.kind t) #[schema_number.rt 91]).run Go.Proofs.Tryz.prog w = .ok (.int .u8 22) w := by kernel_rfl
theorem schema_number.kindB (w : World) : ((ReflectliteType.abiMethod fun t => (fun a : Nat => Value.int IntKind.u8 (a : Int)) <$> Rtype.kind t) #[schema_number.rt 89]).run Go.Proofs.Tryz.prog w = .ok (.int .u8 25) w := by kernel_rfl
theorem schema_number.rlm (z : Sem Value) (f : TypeId → Addr → Nat → Nat → Sem Value) (v : Value) :
    ReflectliteValue.method z f #[v] = (do match ← ReflectliteValue.parts v with | none => z | some (t, a, fl) => f t a fl (fl % 32)) := rfl
theorem schema_number.partsP (a : Addr) (w : World) : (ReflectliteValue.parts (.agg #[schema_number.rt 91, .pointer (some a), .int .u64 150])).run Go.Proofs.Tryz.prog w = .ok (some (91, a, 150)) w := by kernel_rfl
theorem schema_number.isNilP (a p : Addr) (W : World) (ha : W.cell? a = some (.pointer (some p))) :
    (ReflectliteValue.method (ReflectliteValue.valueError "reflectlite.Value.IsNil" 0) ReflectliteValue.isNil #[.agg #[schema_number.rt 91, .pointer (some a), .int .u64 150]]).run Go.Proofs.Tryz.prog W = .ok (.bool false) W := by
  rw [schema_number.rlm]
  simp only [Sem.run_bind, schema_number.partsP, Result.andThen]
  simp [ReflectliteValue.isNil, loadVar, isAgg, underlying, Go.Proofs.Tryz.underlying91, ha, Result.andThen]
theorem schema_number.methodElem (h : Value) (w : World) : (Go.method 283 130 (.agg #[h]) "Elem").run Go.Proofs.Tryz.prog w = .ok (122, .agg #[h]) w := by kernel_rfl
theorem schema_number.methodImplements (h : Value) (w : World) : (Go.method 283 130 (.agg #[h]) "Implements").run Go.Proofs.Tryz.prog w = .ok (123, .agg #[h]) w := by kernel_rfl
theorem schema_number.methodAssignableTo (h : Value) (w : World) : (Go.method 283 130 (.agg #[h]) "AssignableTo").run Go.Proofs.Tryz.prog w = .ok (120, .agg #[h]) w := by kernel_rfl
theorem schema_number.elemP (w : World) : (ReflectliteType.method ReflectliteType.elem #[.agg #[schema_number.rt 91]]).run Go.Proofs.Tryz.prog w = .ok (.iface 130 (.agg #[schema_number.rt 89])) w := by kernel_rfl
theorem schema_number.implementsB (w : World) : (ReflectliteType.relation "Implements" ReflectliteType.implements_ #[.agg #[schema_number.rt 89], .iface 130 (.agg #[schema_number.rt 80])]).run Go.Proofs.Tryz.prog w = .ok (.bool true) w := by kernel_rfl
theorem schema_number.typeOfB (v : Value) (w : World) : (ReflectliteType.typeOf #[.iface 89 v]).run Go.Proofs.Tryz.prog w = .ok (.iface 130 (.agg #[schema_number.rt 89])) w := by kernel_rfl
theorem schema_number.assignableB (w : World) : (ReflectliteType.relation "AssignableTo" ReflectliteType.assignableTo #[.agg #[schema_number.rt 89], .iface 130 (.agg #[schema_number.rt 89])]).run Go.Proofs.Tryz.prog w = .ok (.bool true) w := by kernel_rfl
theorem schema_number.valueOfB (n : Int) (w : World) : (ReflectliteValue.unpack (.iface 89 (.agg #[.int .i64 n]))).run Go.Proofs.Tryz.prog w
    = .ok (.agg #[schema_number.rt 89, .pointer (some ⟨w.heap.size, 0, none⟩), .int .u64 153]) (w.alloc (.cells #[.int .i64 n] 89)) := by kernel_rfl
theorem schema_number.elemOfP (w : World) : (Rtype.elem? 91).run Go.Proofs.Tryz.prog w = .ok (some 89) w := by kernel_rfl
theorem schema_number.mkB (p : Addr) (w : World) : (ReflectliteValue.mk 89 p ReflectliteValue.flagAddr).run Go.Proofs.Tryz.prog w = .ok (.agg #[schema_number.rt 89, .pointer (some p), .int .u64 409]) w := by kernel_rfl
theorem schema_number.elemVP (a p : Addr) (W : World) (ha : W.cell? a = some (.pointer (some p))) :
    (ReflectliteValue.method (ReflectliteValue.valueError "reflectlite.Value.Elem" 0) ReflectliteValue.elem #[.agg #[schema_number.rt 91, .pointer (some a), .int .u64 150]]).run Go.Proofs.Tryz.prog W
      = .ok (.agg #[schema_number.rt 89, .pointer (some p), .int .u64 409]) W := by
  rw [schema_number.rlm]
  simp only [Sem.run_bind, schema_number.partsP, Result.andThen]
  simp [ReflectliteValue.elem, loadVar, isAgg, underlying, Go.Proofs.Tryz.underlying91, ha, Result.andThen, schema_number.elemOfP, schema_number.mkB]
theorem schema_number.rls (v x : Value) : ReflectliteValue.set #[v, x] = (do
    let (some (dst, a, fl), some (src, b, _)) := (← ReflectliteValue.parts v, ← ReflectliteValue.parts x)
      | unsupported (.noEntry "extern/(internal/reflectlite.Value).Set.zeroValue")
    if fl / ReflectliteValue.flagAddr % 2 == 0 then unsupported (.noEntry "extern/(internal/reflectlite.Value).Set.unaddressable")
    let val ← loadVar src b
    if ← Rtype.directlyAssignable dst src then storeVar dst a val
    else if ← Rtype.implements dst src then
      if (← Rtype.kind src) == 20 then
        match val with
        | .nilIface => unsupported (.noEntry "extern/reflectlite: a nil value of one interface type handed on as a value of another")
        | _ => storeVar dst a val
      else storeVar dst a (.iface src val)
    else panicString ("reflectlite.Set: value of type " ++ (← Rtype.spelt src) ++ " is not assignable to type " ++ (← Rtype.spelt dst))
    pure (.tuple #[])) := rfl
theorem schema_number.partsBa (a : Addr) (w : World) : (ReflectliteValue.parts (.agg #[schema_number.rt 89, .pointer (some a), .int .u64 409])).run Go.Proofs.Tryz.prog w = .ok (some (89, a, 409)) w := by kernel_rfl
theorem schema_number.partsB (a : Addr) (w : World) : (ReflectliteValue.parts (.agg #[schema_number.rt 89, .pointer (some a), .int .u64 153])).run Go.Proofs.Tryz.prog w = .ok (some (89, a, 153)) w := by kernel_rfl
theorem schema_number.directB (w : World) : (Rtype.directlyAssignable 89 89).run Go.Proofs.Tryz.prog w = .ok true w := by kernel_rfl
theorem schema_number.sizeB (w : World) : (sizeOf 89).run Go.Proofs.Tryz.prog w = .ok 1 w := by kernel_rfl
theorem schema_number.setB (tb bb : Nat) (n : Int) (old : Value) (W : World) (hb : W.cell? ⟨bb, 0, none⟩ = some (.int .i64 n)) (ht : W.cell? ⟨tb, 0, none⟩ = some old) (hf : W.frozen? ⟨tb, 0, none⟩ = false) :
    (ReflectliteValue.set #[.agg #[schema_number.rt 89, .pointer (some ⟨tb, 0, none⟩), .int .u64 409], .agg #[schema_number.rt 89, .pointer (some ⟨bb, 0, none⟩), .int .u64 153]]).run Go.Proofs.Tryz.prog W
      = .ok (.tuple #[]) (W.setCell ⟨tb, 0, none⟩ (.int .i64 n)) := by
  rw [schema_number.rls]
  have hl := run_loadCells_list (P := Go.Proofs.Tryz.prog) W ⟨bb, 0, none⟩ [.int .i64 n] (fun j v hj => by
    match j with
    | 0 => simp at hj; subst hj; simpa [Addr.add] using hb
    | j + 1 => simp at hj)
  simp only [List.length_singleton] at hl
  simp only [Sem.run_bind, schema_number.partsBa, schema_number.partsB, Result.andThen]
  simp [ReflectliteValue.flagAddr, loadVar, isAgg, underlying, Go.Proofs.Tryz.underlying89, hl, schema_number.sizeB, Result.andThen, schema_number.directB, storeVar, Value.cells, storeCells, Addr.add]
  rw [run_store Go.Proofs.Tryz.prog W ⟨tb, 0, none⟩ _ _ (by rfl)]
  simp [ht, hf]
set_option maxHeartbeats 4000000 in
theorem schema_number.as_hit (n : Int) (tb : Nat) (old : Value) (w : World) (hg : w.cell? ⟨1, 0, none⟩ = some (.iface 130 (.agg #[schema_number.rt 80]))) (ht0 : w.cell? ⟨tb, 0, none⟩ = some old) (hf0 : w.frozen? ⟨tb, 0, none⟩ = false) :
    Calls Go.Proofs.Tryz.prog 50 #[.iface 89 (.agg #[.int .i64 n]), .iface 91 (.pointer (some ⟨tb, 0, none⟩))] w fun ev w' => ev = .returned (.bool true) ∧ w' = ((((w.alloc (.cells #[.pointer (some ⟨tb, 0, none⟩)] 91)).alloc (.cells #[schema_number.rt 91, .pointer (some ⟨w.heap.size, 0, none⟩), .int .u64 150] 114)).alloc (.cells #[schema_number.rt 91, .pointer (some ⟨w.heap.size, 0, none⟩), .int .u64 150] 114)).alloc (.cells #[.int .i64 n] 89)).setCell ⟨tb, 0, none⟩ (.int .i64 n) := by
  have h6 := @run_callFunc_extern Go.Proofs.Tryz.prog 73 _ (fun args => ReflectliteValue.unpack (args.getD 0 (.tuple #[]))) Go.Proofs.Tryz.func73 (by kernel_rfl) (by kernel_rfl) (by kernel_rfl) (by kernel_rfl)
  have h7 := @run_callFunc_extern Go.Proofs.Tryz.prog 74 _ (ReflectliteValue.methodAny (ReflectliteValue.valueError "reflectlite.Value.Type" 0) (fun t _ _ _ => ReflectliteType.toType t)) Go.Proofs.Tryz.func74 (by kernel_rfl) (by kernel_rfl) (by kernel_rfl) (by kernel_rfl)
  have h8 := @run_callFunc_extern Go.Proofs.Tryz.prog 75 _ (ReflectliteValue.method (ReflectliteValue.valueError "reflectlite.Value.IsNil" 0) ReflectliteValue.isNil) Go.Proofs.Tryz.func75 (by kernel_rfl) (by kernel_rfl) (by kernel_rfl) (by kernel_rfl)
  have h27 := @run_callFunc_extern Go.Proofs.Tryz.prog 112 _ (ReflectliteType.abiMethod fun t => do pure (.int .u8 (← Rtype.kind t))) Go.Proofs.Tryz.func112 (by kernel_rfl) (by kernel_rfl) (by kernel_rfl) (by kernel_rfl)
  have h37 := @run_callFunc_extern Go.Proofs.Tryz.prog 122 _ (ReflectliteType.method ReflectliteType.elem) Go.Proofs.Tryz.func122 (by kernel_rfl) (by kernel_rfl) (by kernel_rfl) (by kernel_rfl)
  have h38 := @run_callFunc_extern Go.Proofs.Tryz.prog 123 _ (ReflectliteType.relation "Implements" ReflectliteType.implements_) Go.Proofs.Tryz.func123 (by kernel_rfl) (by kernel_rfl) (by kernel_rfl) (by kernel_rfl)
  have h10 := @run_callFunc_extern Go.Proofs.Tryz.prog 86 _ ReflectliteType.typeOf Go.Proofs.Tryz.func86 (by kernel_rfl) (by kernel_rfl) (by kernel_rfl) (by kernel_rfl)
  have h35 := @run_callFunc_extern Go.Proofs.Tryz.prog 120 _ (ReflectliteType.relation "AssignableTo" ReflectliteType.assignableTo) Go.Proofs.Tryz.func120 (by kernel_rfl) (by kernel_rfl) (by kernel_rfl) (by kernel_rfl)
  have h11 := @run_callFunc_extern Go.Proofs.Tryz.prog 87 _ (ReflectliteValue.method (ReflectliteValue.valueError "reflectlite.Value.Elem" 0) ReflectliteValue.elem) Go.Proofs.Tryz.func87 (by kernel_rfl) (by kernel_rfl) (by kernel_rfl) (by kernel_rfl)
  have h12 := @run_callFunc_extern Go.Proofs.Tryz.prog 88 _ ReflectliteValue.set Go.Proofs.Tryz.func88 (by kernel_rfl) (by kernel_rfl) (by kernel_rfl) (by kernel_rfl)
  have tO := schema_number.typeOfB
  have mA := schema_number.methodAssignableTo
  have a25 := schema_number.assignableB
  have v25 := schema_number.valueOfB
  have f6 := schema_number.valueOfP
  have f7 := schema_number.typeP
  have mK := schema_number.methodKind
  have mE := schema_number.methodElem
  have mI := schema_number.methodImplements
  have k27 := schema_number.kindP
  have k25 := schema_number.kindB
  have e27 := schema_number.elemP
  have i25 := schema_number.implementsB
  have n8 := schema_number.isNilP ⟨w.heap.size, 0, none⟩ ⟨tb, 0, none⟩ ((w.alloc (.cells #[.pointer (some ⟨tb, 0, none⟩)] 91)).alloc (.cells #[schema_number.rt 91, .pointer (some ⟨w.heap.size, 0, none⟩), .int .u64 150] 114)) (by simp)
  have hlt : 1 < w.heap.size := by
    rcases Nat.lt_or_ge 1 w.heap.size with h | h
    · exact h
    · simp [World.cell?, Array.getElem?_eq_none h] at hg
  have hg2 : ((w.alloc (.cells #[.pointer (some ⟨tb, 0, none⟩)] 91)).alloc (.cells #[schema_number.rt 91, .pointer (some ⟨w.heap.size, 0, none⟩), .int .u64 150] 114)).cell? ⟨1, 0, none⟩ = some (.iface 130 (.agg #[schema_number.rt 80])) := by
    rw [World.cell?_alloc_lt _ _ ⟨1, 0, none⟩ (by first | (simp; done) | (simp; omega)), World.cell?_alloc_lt _ _ ⟨1, 0, none⟩ hlt]; exact hg
  have htl : tb < w.heap.size := by
    rcases Nat.lt_or_ge tb w.heap.size with h | h
    · exact h
    · simp [World.cell?, Array.getElem?_eq_none h] at ht0
  have el := schema_number.elemVP ⟨w.heap.size, 0, none⟩ ⟨tb, 0, none⟩ (((w.alloc (.cells #[.pointer (some ⟨tb, 0, none⟩)] 91)).alloc (.cells #[schema_number.rt 91, .pointer (some ⟨w.heap.size, 0, none⟩), .int .u64 150] 114)).alloc (.cells #[schema_number.rt 91, .pointer (some ⟨w.heap.size, 0, none⟩), .int .u64 150] 114)) (by rw [World.cell?_alloc_lt _ _ ⟨w.heap.size, 0, none⟩ (by simp; omega)]; simp)
  have st := schema_number.setB tb (w.heap.size + 1 + 1 + 1) n old ((((w.alloc (.cells #[.pointer (some ⟨tb, 0, none⟩)] 91)).alloc (.cells #[schema_number.rt 91, .pointer (some ⟨w.heap.size, 0, none⟩), .int .u64 150] 114)).alloc (.cells #[schema_number.rt 91, .pointer (some ⟨w.heap.size, 0, none⟩), .int .u64 150] 114)).alloc (.cells #[.int .i64 n] 89))
    (by rw [World.cell?_alloc_at _ _ _ _ (by simp)]; rfl)
    (by rw [World.cell?_alloc_lt _ _ ⟨tb, 0, none⟩ (by simp; omega), World.cell?_alloc_lt _ _ ⟨tb, 0, none⟩ (by simp; omega), World.cell?_alloc_lt _ _ ⟨tb, 0, none⟩ (by simp; omega), World.cell?_alloc_lt _ _ ⟨tb, 0, none⟩ htl]; exact ht0)
    (by rw [World.frozen?_alloc_old _ _ ⟨tb, 0, none⟩ (by simp; omega), World.frozen?_alloc_old _ _ ⟨tb, 0, none⟩ (by simp; omega), World.frozen?_alloc_old _ _ ⟨tb, 0, none⟩ (by simp; omega), World.frozen?_alloc_old _ _ ⟨tb, 0, none⟩ (Nat.ne_of_lt htl)]; exact hf0)
  go_enter Go.Proofs.Tryz.func50, Go.Proofs.Tryz.ntmps50
  go_wp2
  refine wp_loop_rounds 1 ?_
  rw [rounds_succ]
  go_wp2
  go_ret
  exact ⟨rfl, rfl⟩
theorem schema_number.num_nil (w : World) : Calls Go.Proofs.Tryz.prog 39 #[.nilIface] w fun e w' => e = .returned (.int .i64 0) ∧ Below w.heap.size w w' := by
  go_enter Go.Proofs.Tryz.func39, Go.Proofs.Tryz.ntmps39
  go_wp2_with (first | (go_at_call 50; refine (schema_number.as_nil _ _).mono ?_; rintro e w' ⟨rfl, rfl⟩))
  go_ret
  exact ⟨rfl, (Below.refl _ _).alloc (Nat.le_refl _) _⟩
set_option maxHeartbeats 4000000 in
theorem schema_number.num_hit (n : Int) (w : World) (hg : w.cell? ⟨1, 0, none⟩ = some (.iface 130 (.agg #[schema_number.rt 80]))) : Calls Go.Proofs.Tryz.prog 39 #[.iface 89 (.agg #[.int .i64 n])] w fun e w' => e = .returned (.int .i64 n) ∧ Below w.heap.size w w' := by
  have hlt : 1 < w.heap.size := by
    rcases Nat.lt_or_ge 1 w.heap.size with h | h
    · exact h
    · simp [World.cell?, Array.getElem?_eq_none h] at hg
  have hgA : (w.alloc (.cells #[.int .i64 0] 89)).cell? ⟨1, 0, none⟩ = some (.iface 130 (.agg #[schema_number.rt 80])) := by
    rw [World.cell?_alloc_lt _ _ ⟨1, 0, none⟩ hlt]; exact hg
  have htA : (w.alloc (.cells #[.int .i64 0] 89)).cell? ⟨w.heap.size, 0, none⟩ = some (.int .i64 0) := by simp
  have hfA : (w.alloc (.cells #[.int .i64 0] 89)).frozen? ⟨w.heap.size, 0, none⟩ = false := by simp
  go_enter Go.Proofs.Tryz.func39, Go.Proofs.Tryz.ntmps39
  go_wp2_with (first | (go_at_call 50; refine (schema_number.as_hit n _ _ _ hgA htA hfA).mono ?_; rintro e w' ⟨rfl, rfl⟩))
  go_ret
  refine ⟨rfl, ?_⟩
  try refine Below.setCell ?_ (Nat.le_refl _) _
  refine Below.alloc (Below.alloc (Below.alloc (Below.alloc (Below.alloc (Below.refl _ _) (Nat.le_refl _) _) ?_ _) ?_ _) ?_ _) ?_ _ <;> (simp; try omega)
end
theorem schema_number.ok (k : Nat) : CtOK Go.Proofs.Tryz.prog 39 schema_number.ct := by
  have enters : ∀ (args : Array Value) (w : World), (callFunc 39 args).run Go.Proofs.Tryz.prog w = .ok (.enter 39 args) w := fun args w => Go.Proofs.enters_of Go.Proofs.Tryz.func39 (by kernel_rfl) rfl args w
  intro tvs blks res hF w S ρ H vals hm hv
  have fin : ∀ (n : Int), res = ⟨.v (.one (.d (.int .i64) n)), []⟩ → blks = [] → Calls Go.Proofs.Tryz.prog 39 vals.toArray w (fun e w' => e = .returned (.int .i64 n) ∧ RowKit.Below w.heap.size w w') →
      CallsTo Go.Proofs.Tryz.prog 39 vals.toArray w fun e w' => ∃ v S' ρ' H', e = .returned v ∧ Mem (pkgCx w S ρ H blks schema_number.ct.nin) w' S' ρ' H' (fun n => res.blks[n]?) ∧ RepTV w' S' ρ' res.tv v := by
    rintro n rfl rfl hc
    left
    refine ⟨enters _ _, hc.mono fun e w' ⟨h1, h2⟩ => ⟨_, S, ρ, H, h1, ?_, rfl⟩⟩
    have : (fun n => ([] : List (Option Blk))[n]?) = live [] := by funext n; simp [live]
    rw [this]; exact hm.below h2
  simp only [schema_number.ct] at hF
  split at hF
  · simp only [Option.some.injEq] at hF
    obtain ⟨v0, m0, rfl, h0, hv⟩ := All2.cons_left hv
    cases All2.nil_left hv
    obtain ⟨rfl, _⟩ := h0
    exact fin 0 hF.symm rfl (schema_number.num_nil w)
  · rename_i x
    simp only [Option.some.injEq] at hF
    obtain ⟨v0, m0, rfl, h0, hv⟩ := All2.cons_left hv
    cases All2.nil_left hv
    obtain ⟨us, u, rfl, ⟨v1, v2, rfl, h1, h2⟩, rfl⟩ := h0
    simp only [Rd] at h1 h2
    subst h1; subst h2
    obtain ⟨_, hg⟩ := hm.gl _ (List.mem_singleton.2 rfl)
    exact fin x.1 hF.symm rfl (schema_number.num_hit x.1 w hg)
  · simp at hF
end Go.Proofs.YtdbbkmmillnaiaaGreatDoor.Aev
