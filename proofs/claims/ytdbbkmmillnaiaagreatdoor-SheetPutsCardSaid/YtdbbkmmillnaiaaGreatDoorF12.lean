/- By a program of this session (AEV): functions of the program as plain functions, and that the machine does what they say. -/
import Derived.Test.YtdbbkmmillnaiaaGreatDoorTys
import Derived.Test.YtdbbkmmillnaiaaGreatDoorProg
import Derived.Laws.Externs
import Derived.Lib.Bytealg
import Derived.Test.YtdbbkmmillnaiaaGreatDoorF9
import Derived.Test.YtdbbkmmillnaiaaGreatDoorF10
import Derived.Test.YtdbbkmmillnaiaaGreatDoorF11
namespace Go.Proofs.YtdbbkmmillnaiaaGreatDoor.Aev
set_option linter.unusedVariables false
set_option linter.unusedSimpArgs false
set_option maxRecDepth 100000
set_option maxHeartbeats 4000000
open Go Go.Proofs.Tryz
namespace transomref04_Check
abbrev G : Type := Int → Int → Int → ByteArray → Option Int
def ct (g : G) : Ct where
  nin := 0
  mv := []
  F := fun tvs blks {β} K => match tvs, blks with
    | [.v (.agg [(.d (.int .i64) a0), (.d (.int .i64) a1), (.d (.int .u64) a2), (.d .str a3)])], [] => (g a0 a1 a2 a3).bind fun r => K ⟨.v (.one (.d (.int .i64) r)), []⟩
    | _, _ => none
  legit := fun _ _ K _ h => by split at h; exact (legit1 K h :); simp at h
abbrev S0 : Type := Bool → Int → Int → Int → ByteArray → Option Int
abbrev S1 : Type := Bool → Bool → Int → Int → Int → ByteArray → Option Int
abbrev S2 : Type := Bool → Bool → Bool → Int → Int → Int → ByteArray → Option Int
abbrev S3 : Type := Bool → Int → Int → Int → ByteArray → Option Int
abbrev S4 : Type := Bool → Int → Int → Int → ByteArray → Option Int
abbrev S5 : Type := Bool → Int → Int → Int → ByteArray → Option Int
def sg0 (g : S0) : Seg where
  path := [1, 1]
  prep := []
  keep := [1, 3]
  F := fun tvs blks {β} K => match tvs, blks with
    | [.v (.one (.ptr 0 0)), .v (.one (.d .bool x0))], [some (.box [(.d (.int .i64) x1), (.d (.int .i64) x2), (.d (.int .u64) x3), (.d .str x4)])] => (g x0 x1 x2 x3 x4).bind fun r => K ⟨.v (.one (.d (.int .i64) r)), []⟩
    | _, _ => none
  legit := fun _ _ K _ h => by split at h; exact (legit1 K h :); simp at h
def sg1 (g : S1) : Seg where
  path := [1, 1, 1]
  prep := []
  keep := [1, 3, 4]
  F := fun tvs blks {β} K => match tvs, blks with
    | [.v (.one (.ptr 0 0)), .v (.one (.d .bool x0)), .v (.one (.d .bool x1))], [some (.box [(.d (.int .i64) x2), (.d (.int .i64) x3), (.d (.int .u64) x4), (.d .str x5)])] => (g x0 x1 x2 x3 x4 x5).bind fun r => K ⟨.v (.one (.d (.int .i64) r)), []⟩
    | _, _ => none
  legit := fun _ _ K _ h => by split at h; exact (legit1 K h :); simp at h
def sg2 (g : S2) : Seg where
  path := [1, 4, 0, 1, 1, 1]
  prep := []
  keep := [1, 3, 4, 21]
  F := fun tvs blks {β} K => match tvs, blks with
    | [.v (.one (.ptr 0 0)), .v (.one (.d .bool x0)), .v (.one (.d .bool x1)), .v (.one (.d .bool x2))], [some (.box [(.d (.int .i64) x3), (.d (.int .i64) x4), (.d (.int .u64) x5), (.d .str x6)])] => (g x0 x1 x2 x3 x4 x5 x6).bind fun r => K ⟨.v (.one (.d (.int .i64) r)), []⟩
    | _, _ => none
  legit := fun _ _ K _ h => by split at h; exact (legit1 K h :); simp at h
def sg3 (g : S3) : Seg where
  path := [1, 3, 1, 4, 0, 1, 1, 1]
  prep := []
  keep := [1, 30]
  F := fun tvs blks {β} K => match tvs, blks with
    | [.v (.one (.ptr 0 0)), .v (.one (.d .bool x0))], [some (.box [(.d (.int .i64) x1), (.d (.int .i64) x2), (.d (.int .u64) x3), (.d .str x4)])] => (g x0 x1 x2 x3 x4).bind fun r => K ⟨.v (.one (.d (.int .i64) r)), []⟩
    | _, _ => none
  legit := fun _ _ K _ h => by split at h; exact (legit1 K h :); simp at h
def sg4 (g : S4) : Seg where
  path := [1, 3, 1, 3, 1, 4, 0, 1, 1, 1]
  prep := []
  keep := [1, 57]
  F := fun tvs blks {β} K => match tvs, blks with
    | [.v (.one (.ptr 0 0)), .v (.one (.d .bool x0))], [some (.box [(.d (.int .i64) x1), (.d (.int .i64) x2), (.d (.int .u64) x3), (.d .str x4)])] => (g x0 x1 x2 x3 x4).bind fun r => K ⟨.v (.one (.d (.int .i64) r)), []⟩
    | _, _ => none
  legit := fun _ _ K _ h => by split at h; exact (legit1 K h :); simp at h
def sg5 (g : S5) : Seg where
  path := [1, 3, 1, 3, 1, 3, 1, 4, 0, 1, 1, 1]
  prep := []
  keep := [1, 71]
  F := fun tvs blks {β} K => match tvs, blks with
    | [.v (.one (.ptr 0 0)), .v (.one (.d .bool x0))], [some (.box [(.d (.int .i64) x1), (.d (.int .i64) x2), (.d (.int .u64) x3), (.d .str x4)])] => (g x0 x1 x2 x3 x4).bind fun r => K ⟨.v (.one (.d (.int .i64) r)), []⟩
    | _, _ => none
  legit := fun _ _ K _ h => by split at h; exact (legit1 K h :); simp at h
noncomputable def env (g84 : transomref02_Canon.G) (g85 : transomref01_Valid.G) (s0 : S0) (s1 : S1) (s2 : S2) (s3 : S3) (s4 : S4) (s5 : S5) : FEnv := { P := prog, ct := fun m => if m = 84 then some (transomref02_Canon.ct g84) else if m = 85 then some (transomref01_Valid.ct g85) else none, N := 98, body := f68.body.getD .skip, rvs := [.tmp 2], rts := [3], nin := 0, rmv := [], segs := [sg0 s0, sg1 s1, sg2 s2, sg3 s3, sg4 s4, sg5 s5] }
def c {β : Type} (g84 : transomref02_Canon.G) (g85 : transomref01_Valid.G) (s0 : S0) (s1 : S1) (s2 : S2) (s3 : S3) (s4 : S4) (s5 : S5) (a0 : Int) (a1 : Int) (a2 : Int) (a3 : ByteArray) (ret : Int → Option β) : Option β := (bif (a0 == (1 : Int)) then ((s0 true a0 a1 a2 a3).bind ret) else ((s0 (a0 == (2 : Int)) a0 a1 a2 a3).bind ret))
def s0c {β : Type} (g84 : transomref02_Canon.G) (g85 : transomref01_Valid.G) (s0 : S0) (s1 : S1) (s2 : S2) (s3 : S3) (s4 : S4) (s5 : S5) (x0 : Bool) (x1 : Int) (x2 : Int) (x3 : Int) (x4 : ByteArray) (ret : Int → Option β) : Option β := (bif (x1 == (4 : Int)) then ((s1 x0 true x1 x2 x3 x4).bind ret) else ((s1 x0 (x1 == (5 : Int)) x1 x2 x3 x4).bind ret))
def s1c {β : Type} (g84 : transomref02_Canon.G) (g85 : transomref01_Valid.G) (s0 : S0) (s1 : S1) (s2 : S2) (s3 : S3) (s4 : S4) (s5 : S5) (x0 : Bool) (x1 : Bool) (x2 : Int) (x3 : Int) (x4 : Int) (x5 : ByteArray) (ret : Int → Option β) : Option β := (bif (decide (x2 < (0 : Int))) then ((s2 x0 x1 true x2 x3 x4 x5).bind ret) else ((s2 x0 x1 (decide (x2 > (5 : Int))) x2 x3 x4 x5).bind ret))
def s2c {β : Type} (g84 : transomref02_Canon.G) (g85 : transomref01_Valid.G) (s0 : S0) (s1 : S1) (s2 : S2) (s3 : S3) (s4 : S4) (s5 : S5) (x0 : Bool) (x1 : Bool) (x2 : Bool) (x3 : Int) (x4 : Int) (x5 : Int) (x6 : ByteArray) (ret : Int → Option β) : Option β := (bif x2 then (ret ((5 : Int))) else (bif (x4 != (0 : Int)) then (bif (!x0) then ((s3 true x3 x4 x5 x6).bind ret) else (bif (x5 != (0 : Int)) then (bif (x3 != (3 : Int)) then ((s3 true x3 x4 x5 x6).bind ret) else (bif (!((ByteArray.toList x6) == (ByteArray.toList (ByteArray.mk (List.toArray []))))) then ((s3 (!x1) x3 x4 x5 x6).bind ret) else ((s3 false x3 x4 x5 x6).bind ret))) else (bif (!((ByteArray.toList x6) == (ByteArray.toList (ByteArray.mk (List.toArray []))))) then ((s3 (!x1) x3 x4 x5 x6).bind ret) else ((s3 false x3 x4 x5 x6).bind ret)))) else (bif (x5 != (0 : Int)) then (bif (x3 != (3 : Int)) then ((s3 true x3 x4 x5 x6).bind ret) else (bif (!((ByteArray.toList x6) == (ByteArray.toList (ByteArray.mk (List.toArray []))))) then ((s3 (!x1) x3 x4 x5 x6).bind ret) else ((s3 false x3 x4 x5 x6).bind ret))) else (bif (!((ByteArray.toList x6) == (ByteArray.toList (ByteArray.mk (List.toArray []))))) then ((s3 (!x1) x3 x4 x5 x6).bind ret) else ((s3 false x3 x4 x5 x6).bind ret)))))
def s3c {β : Type} (g84 : transomref02_Canon.G) (g85 : transomref01_Valid.G) (s0 : S0) (s1 : S1) (s2 : S2) (s3 : S3) (s4 : S4) (s5 : S5) (x0 : Bool) (x1 : Int) (x2 : Int) (x3 : Int) (x4 : ByteArray) (ret : Int → Option β) : Option β := (bif x0 then (ret ((4 : Int))) else (bif (x1 == (1 : Int)) then (bif (x2 != (0 : Int)) then ((s4 (x2 != (1 : Int)) x1 x2 x3 x4).bind ret) else ((s4 false x1 x2 x3 x4).bind ret)) else ((s4 false x1 x2 x3 x4).bind ret)))
def s4c {β : Type} (g84 : transomref02_Canon.G) (g85 : transomref01_Valid.G) (s0 : S0) (s1 : S1) (s2 : S2) (s3 : S3) (s4 : S4) (s5 : S5) (x0 : Bool) (x1 : Int) (x2 : Int) (x3 : Int) (x4 : ByteArray) (ret : Int → Option β) : Option β := (bif x0 then (ret ((6 : Int))) else (bif (x1 == (3 : Int)) then ((g84 x3).bind fun r0 => ((s5 (r0 != x3) x1 x2 x3 x4).bind ret)) else ((s5 false x1 x2 x3 x4).bind ret)))
def s5c {β : Type} (g84 : transomref02_Canon.G) (g85 : transomref01_Valid.G) (s0 : S0) (s1 : S1) (s2 : S2) (s3 : S3) (s4 : S4) (s5 : S5) (x0 : Bool) (x1 : Int) (x2 : Int) (x3 : Int) (x4 : ByteArray) (ret : Int → Option β) : Option β := (bif x0 then (ret ((4 : Int))) else (bif (decide (((ByteArray.size x4) : Int) > (64 : Int))) then (ret ((2 : Int))) else (bif (x1 == (5 : Int)) then ((g85 x4).bind fun r0 => (bif (!r0) then (ret ((7 : Int))) else (ret ((0 : Int))))) else (ret ((0 : Int))))))
theorem c_bind {β : Type} {g84 : transomref02_Canon.G} {g85 : transomref01_Valid.G} {s0 : S0} {s1 : S1} {s2 : S2} {s3 : S3} {s4 : S4} {s5 : S5} {a0 : Int} {a1 : Int} {a2 : Int} {a3 : ByteArray} {ret : Int → Option β} : c g84 g85 s0 s1 s2 s3 s4 s5 a0 a1 a2 a3 ret = (c g84 g85 s0 s1 s2 s3 s4 s5 a0 a1 a2 a3 some).bind ret := by
  simp only [c, bif_bind, sum_bind, oa, os, on, ofs]
theorem s0c_bind {β : Type} {g84 : transomref02_Canon.G} {g85 : transomref01_Valid.G} {s0 : S0} {s1 : S1} {s2 : S2} {s3 : S3} {s4 : S4} {s5 : S5} {x0 : Bool} {x1 : Int} {x2 : Int} {x3 : Int} {x4 : ByteArray} {ret : Int → Option β} : s0c g84 g85 s0 s1 s2 s3 s4 s5 x0 x1 x2 x3 x4 ret = (s0c g84 g85 s0 s1 s2 s3 s4 s5 x0 x1 x2 x3 x4 some).bind ret := by
  simp only [s0c, bif_bind, sum_bind, oa, os, on, ofs]
theorem s1c_bind {β : Type} {g84 : transomref02_Canon.G} {g85 : transomref01_Valid.G} {s0 : S0} {s1 : S1} {s2 : S2} {s3 : S3} {s4 : S4} {s5 : S5} {x0 : Bool} {x1 : Bool} {x2 : Int} {x3 : Int} {x4 : Int} {x5 : ByteArray} {ret : Int → Option β} : s1c g84 g85 s0 s1 s2 s3 s4 s5 x0 x1 x2 x3 x4 x5 ret = (s1c g84 g85 s0 s1 s2 s3 s4 s5 x0 x1 x2 x3 x4 x5 some).bind ret := by
  simp only [s1c, bif_bind, sum_bind, oa, os, on, ofs]
theorem s2c_bind {β : Type} {g84 : transomref02_Canon.G} {g85 : transomref01_Valid.G} {s0 : S0} {s1 : S1} {s2 : S2} {s3 : S3} {s4 : S4} {s5 : S5} {x0 : Bool} {x1 : Bool} {x2 : Bool} {x3 : Int} {x4 : Int} {x5 : Int} {x6 : ByteArray} {ret : Int → Option β} : s2c g84 g85 s0 s1 s2 s3 s4 s5 x0 x1 x2 x3 x4 x5 x6 ret = (s2c g84 g85 s0 s1 s2 s3 s4 s5 x0 x1 x2 x3 x4 x5 x6 some).bind ret := by
  simp only [s2c, bif_bind, sum_bind, oa, os, on, ofs]
theorem s3c_bind {β : Type} {g84 : transomref02_Canon.G} {g85 : transomref01_Valid.G} {s0 : S0} {s1 : S1} {s2 : S2} {s3 : S3} {s4 : S4} {s5 : S5} {x0 : Bool} {x1 : Int} {x2 : Int} {x3 : Int} {x4 : ByteArray} {ret : Int → Option β} : s3c g84 g85 s0 s1 s2 s3 s4 s5 x0 x1 x2 x3 x4 ret = (s3c g84 g85 s0 s1 s2 s3 s4 s5 x0 x1 x2 x3 x4 some).bind ret := by
  simp only [s3c, bif_bind, sum_bind, oa, os, on, ofs]
theorem s4c_bind {β : Type} {g84 : transomref02_Canon.G} {g85 : transomref01_Valid.G} {s0 : S0} {s1 : S1} {s2 : S2} {s3 : S3} {s4 : S4} {s5 : S5} {x0 : Bool} {x1 : Int} {x2 : Int} {x3 : Int} {x4 : ByteArray} {ret : Int → Option β} : s4c g84 g85 s0 s1 s2 s3 s4 s5 x0 x1 x2 x3 x4 ret = (s4c g84 g85 s0 s1 s2 s3 s4 s5 x0 x1 x2 x3 x4 some).bind ret := by
  simp only [s4c, bif_bind, sum_bind, oa, os, on, ofs]
theorem s5c_bind {β : Type} {g84 : transomref02_Canon.G} {g85 : transomref01_Valid.G} {s0 : S0} {s1 : S1} {s2 : S2} {s3 : S3} {s4 : S4} {s5 : S5} {x0 : Bool} {x1 : Int} {x2 : Int} {x3 : Int} {x4 : ByteArray} {ret : Int → Option β} : s5c g84 g85 s0 s1 s2 s3 s4 s5 x0 x1 x2 x3 x4 ret = (s5c g84 g85 s0 s1 s2 s3 s4 s5 x0 x1 x2 x3 x4 some).bind ret := by
  simp only [s5c, bif_bind, sum_bind, oa, os, on, ofs]
theorem ev {g84 : transomref02_Canon.G} {g85 : transomref01_Valid.G} {s0 : S0} {s1 : S1} {s2 : S2} {s3 : S3} {s4 : S4} {s5 : S5} {a0 : Int} {a1 : Int} {a2 : Int} {a3 : ByteArray} : evAt (env g84 g85 s0 s1 s2 s3 s4 s5) [] [0] [.v (.agg [(.d (.int .i64) a0), (.d (.int .i64) a1), (.d (.int .u64) a2), (.d .str a3)])] [] some = c g84 g85 s0 s1 s2 s3 s4 s5 a0 a1 a2 a3 (fun r => some ⟨.v (.one (.d (.int .i64) r)), []⟩) := by
  kernel_rfl
theorem s0_ev {g84 : transomref02_Canon.G} {g85 : transomref01_Valid.G} {s0 : S0} {s1 : S1} {s2 : S2} {s3 : S3} {s4 : S4} {s5 : S5} {x0 : Bool} {x1 : Int} {x2 : Int} {x3 : Int} {x4 : ByteArray} : evAt (env g84 g85 s0 s1 s2 s3 s4 s5) [1, 1] [1, 3] [.v (.one (.ptr 0 0)), .v (.one (.d .bool x0))] [some (.box [(.d (.int .i64) x1), (.d (.int .i64) x2), (.d (.int .u64) x3), (.d .str x4)])] some = s0c g84 g85 s0 s1 s2 s3 s4 s5 x0 x1 x2 x3 x4 (fun r => some ⟨.v (.one (.d (.int .i64) r)), []⟩) := by
  kernel_rfl
theorem s1_ev {g84 : transomref02_Canon.G} {g85 : transomref01_Valid.G} {s0 : S0} {s1 : S1} {s2 : S2} {s3 : S3} {s4 : S4} {s5 : S5} {x0 : Bool} {x1 : Bool} {x2 : Int} {x3 : Int} {x4 : Int} {x5 : ByteArray} : evAt (env g84 g85 s0 s1 s2 s3 s4 s5) [1, 1, 1] [1, 3, 4] [.v (.one (.ptr 0 0)), .v (.one (.d .bool x0)), .v (.one (.d .bool x1))] [some (.box [(.d (.int .i64) x2), (.d (.int .i64) x3), (.d (.int .u64) x4), (.d .str x5)])] some = s1c g84 g85 s0 s1 s2 s3 s4 s5 x0 x1 x2 x3 x4 x5 (fun r => some ⟨.v (.one (.d (.int .i64) r)), []⟩) := by
  kernel_rfl
theorem s2_ev {g84 : transomref02_Canon.G} {g85 : transomref01_Valid.G} {s0 : S0} {s1 : S1} {s2 : S2} {s3 : S3} {s4 : S4} {s5 : S5} {x0 : Bool} {x1 : Bool} {x2 : Bool} {x3 : Int} {x4 : Int} {x5 : Int} {x6 : ByteArray} : evAt (env g84 g85 s0 s1 s2 s3 s4 s5) [1, 4, 0, 1, 1, 1] [1, 3, 4, 21] [.v (.one (.ptr 0 0)), .v (.one (.d .bool x0)), .v (.one (.d .bool x1)), .v (.one (.d .bool x2))] [some (.box [(.d (.int .i64) x3), (.d (.int .i64) x4), (.d (.int .u64) x5), (.d .str x6)])] some = s2c g84 g85 s0 s1 s2 s3 s4 s5 x0 x1 x2 x3 x4 x5 x6 (fun r => some ⟨.v (.one (.d (.int .i64) r)), []⟩) := by
  kernel_rfl
theorem s3_ev {g84 : transomref02_Canon.G} {g85 : transomref01_Valid.G} {s0 : S0} {s1 : S1} {s2 : S2} {s3 : S3} {s4 : S4} {s5 : S5} {x0 : Bool} {x1 : Int} {x2 : Int} {x3 : Int} {x4 : ByteArray} : evAt (env g84 g85 s0 s1 s2 s3 s4 s5) [1, 3, 1, 4, 0, 1, 1, 1] [1, 30] [.v (.one (.ptr 0 0)), .v (.one (.d .bool x0))] [some (.box [(.d (.int .i64) x1), (.d (.int .i64) x2), (.d (.int .u64) x3), (.d .str x4)])] some = s3c g84 g85 s0 s1 s2 s3 s4 s5 x0 x1 x2 x3 x4 (fun r => some ⟨.v (.one (.d (.int .i64) r)), []⟩) := by
  kernel_rfl
theorem s4_ev {g84 : transomref02_Canon.G} {g85 : transomref01_Valid.G} {s0 : S0} {s1 : S1} {s2 : S2} {s3 : S3} {s4 : S4} {s5 : S5} {x0 : Bool} {x1 : Int} {x2 : Int} {x3 : Int} {x4 : ByteArray} : evAt (env g84 g85 s0 s1 s2 s3 s4 s5) [1, 3, 1, 3, 1, 4, 0, 1, 1, 1] [1, 57] [.v (.one (.ptr 0 0)), .v (.one (.d .bool x0))] [some (.box [(.d (.int .i64) x1), (.d (.int .i64) x2), (.d (.int .u64) x3), (.d .str x4)])] some = s4c g84 g85 s0 s1 s2 s3 s4 s5 x0 x1 x2 x3 x4 (fun r => some ⟨.v (.one (.d (.int .i64) r)), []⟩) := by
  kernel_rfl
theorem s5_ev {g84 : transomref02_Canon.G} {g85 : transomref01_Valid.G} {s0 : S0} {s1 : S1} {s2 : S2} {s3 : S3} {s4 : S4} {s5 : S5} {x0 : Bool} {x1 : Int} {x2 : Int} {x3 : Int} {x4 : ByteArray} : evAt (env g84 g85 s0 s1 s2 s3 s4 s5) [1, 3, 1, 3, 1, 3, 1, 4, 0, 1, 1, 1] [1, 71] [.v (.one (.ptr 0 0)), .v (.one (.d .bool x0))] [some (.box [(.d (.int .i64) x1), (.d (.int .i64) x2), (.d (.int .u64) x3), (.d .str x4)])] some = s5c g84 g85 s0 s1 s2 s3 s4 s5 x0 x1 x2 x3 x4 (fun r => some ⟨.v (.one (.d (.int .i64) r)), []⟩) := by
  kernel_rfl
mutual
def s0 : Nat → Bool → Int → Int → Int → ByteArray → Option Int
  | 0, _, _, _, _, _ => none
  | k + 1, x0, x1, x2, x3, x4 => s0c (transomref02_Canon.f k) (transomref01_Valid.f k) (s0 k) (s1 k) (s2 k) (s3 k) (s4 k) (s5 k) x0 x1 x2 x3 x4 some
def s1 : Nat → Bool → Bool → Int → Int → Int → ByteArray → Option Int
  | 0, _, _, _, _, _, _ => none
  | k + 1, x0, x1, x2, x3, x4, x5 => s1c (transomref02_Canon.f k) (transomref01_Valid.f k) (s0 k) (s1 k) (s2 k) (s3 k) (s4 k) (s5 k) x0 x1 x2 x3 x4 x5 some
def s2 : Nat → Bool → Bool → Bool → Int → Int → Int → ByteArray → Option Int
  | 0, _, _, _, _, _, _, _ => none
  | k + 1, x0, x1, x2, x3, x4, x5, x6 => s2c (transomref02_Canon.f k) (transomref01_Valid.f k) (s0 k) (s1 k) (s2 k) (s3 k) (s4 k) (s5 k) x0 x1 x2 x3 x4 x5 x6 some
def s3 : Nat → Bool → Int → Int → Int → ByteArray → Option Int
  | 0, _, _, _, _, _ => none
  | k + 1, x0, x1, x2, x3, x4 => s3c (transomref02_Canon.f k) (transomref01_Valid.f k) (s0 k) (s1 k) (s2 k) (s3 k) (s4 k) (s5 k) x0 x1 x2 x3 x4 some
def s4 : Nat → Bool → Int → Int → Int → ByteArray → Option Int
  | 0, _, _, _, _, _ => none
  | k + 1, x0, x1, x2, x3, x4 => s4c (transomref02_Canon.f k) (transomref01_Valid.f k) (s0 k) (s1 k) (s2 k) (s3 k) (s4 k) (s5 k) x0 x1 x2 x3 x4 some
def s5 : Nat → Bool → Int → Int → Int → ByteArray → Option Int
  | 0, _, _, _, _, _ => none
  | k + 1, x0, x1, x2, x3, x4 => s5c (transomref02_Canon.f k) (transomref01_Valid.f k) (s0 k) (s1 k) (s2 k) (s3 k) (s4 k) (s5 k) x0 x1 x2 x3 x4 some
end
def f (k : Nat) (a0 : Int) (a1 : Int) (a2 : Int) (a3 : ByteArray) : Option Int := c (transomref02_Canon.f k) (transomref01_Valid.f k) (s0 k) (s1 k) (s2 k) (s3 k) (s4 k) (s5 k) a0 a1 a2 a3 some
theorem is {g84 : transomref02_Canon.G} {g85 : transomref01_Valid.G} {s0 : S0} {s1 : S1} {s2 : S2} {s3 : S3} {s4 : S4} {s5 : S5} : FnIs (env g84 g85 s0 s1 s2 s3 s4 s5) 68 f68 := ⟨func68, rfl, rfl, rfl, by decide⟩
theorem envok {g84 : transomref02_Canon.G} {g85 : transomref01_Valid.G} {s0 : S0} {s1 : S1} {s2 : S2} {s3 : S3} {s4 : S4} {s5 : S5} (h84 : CtOK prog 84 (transomref02_Canon.ct g84)) (h85 : CtOK prog 85 (transomref01_Valid.ct g85)) : EnvOK (env g84 g85 s0 s1 s2 s3 s4 s5).toEnv := by
  intro f c h
  simp only [env] at h
  split at h
  · rename_i e; subst e; cases h; exact h84
  split at h
  · rename_i e; subst e; cases h; exact h85
  simp at h
noncomputable abbrev E (k : Nat) : FEnv := env (transomref02_Canon.f k) (transomref01_Valid.f k) (s0 k) (s1 k) (s2 k) (s3 k) (s4 k) (s5 k)
theorem hE (k : Nat) : EnvOK (E k).toEnv := envok (transomref02_Canon.ok k) (transomref01_Valid.ok k)
theorem segs_ok : ∀ k, ∀ s ∈ (E k).segs, SegOK (E k) f68 s
  | 0 => by
    intro s hs
    simp only [E, env, List.mem_cons, List.not_mem_nil, or_false] at hs
    rcases hs with rfl | rfl | rfl | rfl | rfl | rfl
    · intro tvs blks res h; exfalso; simp only [sg0] at h; split at h <;> simp [s0] at h
    · intro tvs blks res h; exfalso; simp only [sg1] at h; split at h <;> simp [s1] at h
    · intro tvs blks res h; exfalso; simp only [sg2] at h; split at h <;> simp [s2] at h
    · intro tvs blks res h; exfalso; simp only [sg3] at h; split at h <;> simp [s3] at h
    · intro tvs blks res h; exfalso; simp only [sg4] at h; split at h <;> simp [s4] at h
    · intro tvs blks res h; exfalso; simp only [sg5] at h; split at h <;> simp [s5] at h
  | k + 1 => by
    intro s hs
    simp only [E, env, List.mem_cons, List.not_mem_nil, or_false] at hs
    rcases hs with rfl | rfl | rfl | rfl | rfl | rfl
    · refine seg_of_ev (E := E k) (hE k) ⟨is.rvs⟩ (segs_ok k) ?_
      intro tvs blks res h
      simp only [sg0] at h
      split at h
      · exact (s0_ev.trans s0c_bind).trans h
      · simp at h
    · refine seg_of_ev (E := E k) (hE k) ⟨is.rvs⟩ (segs_ok k) ?_
      intro tvs blks res h
      simp only [sg1] at h
      split at h
      · exact (s1_ev.trans s1c_bind).trans h
      · simp at h
    · refine seg_of_ev (E := E k) (hE k) ⟨is.rvs⟩ (segs_ok k) ?_
      intro tvs blks res h
      simp only [sg2] at h
      split at h
      · exact (s2_ev.trans s2c_bind).trans h
      · simp at h
    · refine seg_of_ev (E := E k) (hE k) ⟨is.rvs⟩ (segs_ok k) ?_
      intro tvs blks res h
      simp only [sg3] at h
      split at h
      · exact (s3_ev.trans s3c_bind).trans h
      · simp at h
    · refine seg_of_ev (E := E k) (hE k) ⟨is.rvs⟩ (segs_ok k) ?_
      intro tvs blks res h
      simp only [sg4] at h
      split at h
      · exact (s4_ev.trans s4c_bind).trans h
      · simp at h
    · refine seg_of_ev (E := E k) (hE k) ⟨is.rvs⟩ (segs_ok k) ?_
      intro tvs blks res h
      simp only [sg5] at h
      split at h
      · exact (s5_ev.trans s5c_bind).trans h
      · simp at h
theorem ok (k : Nat) : CtOK prog 68 (ct (f k)) := by
  refine ct_of_ev (E := E k) is (hE k) (segs_ok k) rfl ?_
  intro tvs blks res h
  simp only [ct] at h
  split at h
  · exact (ev.trans c_bind).trans h
  · simp at h
end transomref04_Check
namespace transomref09_CheckCol
abbrev G : Type := ByteArray → Int → Bool → Int → Int → Int → ByteArray → Option Int
def ct (g : G) : Ct where
  nin := 0
  mv := []
  F := fun tvs blks {β} K => match tvs, blks with
    | [.v (.agg [(.d .str a0), (.d (.int .i64) a1), (.d .bool a2), (.d (.int .i64) a3), (.d (.int .i64) a4), (.d (.int .u64) a5), (.d .str a6)])], [] => (g a0 a1 a2 a3 a4 a5 a6).bind fun r => K ⟨.v (.one (.d (.int .i64) r)), []⟩
    | _, _ => none
  legit := fun _ _ K _ h => by split at h; exact (legit1 K h :); simp at h
abbrev S0 : Type := Bool → ByteArray → Int → Bool → Int → Int → Int → ByteArray → Option Int
abbrev S1 : Type := ByteArray → Int → Bool → Int → Int → Int → ByteArray → Option Int
def sg0 (g : S0) : Seg where
  path := [1, 0, 1, 1]
  prep := []
  keep := [1, 18]
  F := fun tvs blks {β} K => match tvs, blks with
    | [.v (.one (.ptr 0 0)), .v (.one (.d .bool x0))], [some (.box [(.d .str x1), (.d (.int .i64) x2), (.d .bool x3), (.d (.int .i64) x4), (.d (.int .i64) x5), (.d (.int .u64) x6), (.d .str x7)])] => (g x0 x1 x2 x3 x4 x5 x6 x7).bind fun r => K ⟨.v (.one (.d (.int .i64) r)), []⟩
    | _, _ => none
  legit := fun _ _ K _ h => by split at h; exact (legit1 K h :); simp at h
def sg1 (g : S1) : Seg where
  path := [1, 1, 1]
  prep := []
  keep := [1]
  F := fun tvs blks {β} K => match tvs, blks with
    | [.v (.one (.ptr 0 0))], [some (.box [(.d .str x0), (.d (.int .i64) x1), (.d .bool x2), (.d (.int .i64) x3), (.d (.int .i64) x4), (.d (.int .u64) x5), (.d .str x6)])] => (g x0 x1 x2 x3 x4 x5 x6).bind fun r => K ⟨.v (.one (.d (.int .i64) r)), []⟩
    | _, _ => none
  legit := fun _ _ K _ h => by split at h; exact (legit1 K h :); simp at h
noncomputable def env (g64 : transomref08_Check.G) (g68 : transomref04_Check.G) (s0 : S0) (s1 : S1) : FEnv := { P := prog, ct := fun m => if m = 64 then some (transomref08_Check.ct g64) else if m = 68 then some (transomref04_Check.ct g68) else none, N := 37, body := f65.body.getD .skip, rvs := [.tmp 2], rts := [3], nin := 0, rmv := [], segs := [sg0 s0, sg1 s1] }
def c {β : Type} (g64 : transomref08_Check.G) (g68 : transomref04_Check.G) (s0 : S0) (s1 : S1) (a0 : ByteArray) (a1 : Int) (a2 : Bool) (a3 : Int) (a4 : Int) (a5 : Int) (a6 : ByteArray) (ret : Int → Option β) : Option β := ((g64 a0).bind fun r0 => (bif (r0 != (0 : Int)) then (ret (r0)) else (bif (decide (a1 < (1 : Int))) then ((s0 true a0 a1 a2 a3 a4 a5 a6).bind ret) else ((s0 (decide (a1 > (5 : Int))) a0 a1 a2 a3 a4 a5 a6).bind ret))))
def s0c {β : Type} (g64 : transomref08_Check.G) (g68 : transomref04_Check.G) (s0 : S0) (s1 : S1) (x0 : Bool) (x1 : ByteArray) (x2 : Int) (x3 : Bool) (x4 : Int) (x5 : Int) (x6 : Int) (x7 : ByteArray) (ret : Int → Option β) : Option β := (bif x0 then (ret ((5 : Int))) else ((s1 x1 x2 x3 x4 x5 x6 x7).bind ret))
def s1c {β : Type} (g64 : transomref08_Check.G) (g68 : transomref04_Check.G) (s0 : S0) (s1 : S1) (x0 : ByteArray) (x1 : Int) (x2 : Bool) (x3 : Int) (x4 : Int) (x5 : Int) (x6 : ByteArray) (ret : Int → Option β) : Option β := ((g68 x3 x4 x5 x6).bind fun r0 => (bif (r0 != (0 : Int)) then (ret (r0)) else (bif (x3 != (0 : Int)) then (bif (x3 != x1) then (ret ((11 : Int))) else (ret ((0 : Int)))) else (ret ((0 : Int))))))
theorem c_bind {β : Type} {g64 : transomref08_Check.G} {g68 : transomref04_Check.G} {s0 : S0} {s1 : S1} {a0 : ByteArray} {a1 : Int} {a2 : Bool} {a3 : Int} {a4 : Int} {a5 : Int} {a6 : ByteArray} {ret : Int → Option β} : c g64 g68 s0 s1 a0 a1 a2 a3 a4 a5 a6 ret = (c g64 g68 s0 s1 a0 a1 a2 a3 a4 a5 a6 some).bind ret := by
  simp only [c, bif_bind, sum_bind, oa, os, on, ofs]
theorem s0c_bind {β : Type} {g64 : transomref08_Check.G} {g68 : transomref04_Check.G} {s0 : S0} {s1 : S1} {x0 : Bool} {x1 : ByteArray} {x2 : Int} {x3 : Bool} {x4 : Int} {x5 : Int} {x6 : Int} {x7 : ByteArray} {ret : Int → Option β} : s0c g64 g68 s0 s1 x0 x1 x2 x3 x4 x5 x6 x7 ret = (s0c g64 g68 s0 s1 x0 x1 x2 x3 x4 x5 x6 x7 some).bind ret := by
  simp only [s0c, bif_bind, sum_bind, oa, os, on, ofs]
theorem s1c_bind {β : Type} {g64 : transomref08_Check.G} {g68 : transomref04_Check.G} {s0 : S0} {s1 : S1} {x0 : ByteArray} {x1 : Int} {x2 : Bool} {x3 : Int} {x4 : Int} {x5 : Int} {x6 : ByteArray} {ret : Int → Option β} : s1c g64 g68 s0 s1 x0 x1 x2 x3 x4 x5 x6 ret = (s1c g64 g68 s0 s1 x0 x1 x2 x3 x4 x5 x6 some).bind ret := by
  simp only [s1c, bif_bind, sum_bind, oa, os, on, ofs]
theorem ev {g64 : transomref08_Check.G} {g68 : transomref04_Check.G} {s0 : S0} {s1 : S1} {a0 : ByteArray} {a1 : Int} {a2 : Bool} {a3 : Int} {a4 : Int} {a5 : Int} {a6 : ByteArray} : evAt (env g64 g68 s0 s1) [] [0] [.v (.agg [(.d .str a0), (.d (.int .i64) a1), (.d .bool a2), (.d (.int .i64) a3), (.d (.int .i64) a4), (.d (.int .u64) a5), (.d .str a6)])] [] some = c g64 g68 s0 s1 a0 a1 a2 a3 a4 a5 a6 (fun r => some ⟨.v (.one (.d (.int .i64) r)), []⟩) := by
  kernel_rfl
theorem s0_ev {g64 : transomref08_Check.G} {g68 : transomref04_Check.G} {s0 : S0} {s1 : S1} {x0 : Bool} {x1 : ByteArray} {x2 : Int} {x3 : Bool} {x4 : Int} {x5 : Int} {x6 : Int} {x7 : ByteArray} : evAt (env g64 g68 s0 s1) [1, 0, 1, 1] [1, 18] [.v (.one (.ptr 0 0)), .v (.one (.d .bool x0))] [some (.box [(.d .str x1), (.d (.int .i64) x2), (.d .bool x3), (.d (.int .i64) x4), (.d (.int .i64) x5), (.d (.int .u64) x6), (.d .str x7)])] some = s0c g64 g68 s0 s1 x0 x1 x2 x3 x4 x5 x6 x7 (fun r => some ⟨.v (.one (.d (.int .i64) r)), []⟩) := by
  kernel_rfl
theorem s1_ev {g64 : transomref08_Check.G} {g68 : transomref04_Check.G} {s0 : S0} {s1 : S1} {x0 : ByteArray} {x1 : Int} {x2 : Bool} {x3 : Int} {x4 : Int} {x5 : Int} {x6 : ByteArray} : evAt (env g64 g68 s0 s1) [1, 1, 1] [1] [.v (.one (.ptr 0 0))] [some (.box [(.d .str x0), (.d (.int .i64) x1), (.d .bool x2), (.d (.int .i64) x3), (.d (.int .i64) x4), (.d (.int .u64) x5), (.d .str x6)])] some = s1c g64 g68 s0 s1 x0 x1 x2 x3 x4 x5 x6 (fun r => some ⟨.v (.one (.d (.int .i64) r)), []⟩) := by
  kernel_rfl
mutual
def s0 : Nat → Bool → ByteArray → Int → Bool → Int → Int → Int → ByteArray → Option Int
  | 0, _, _, _, _, _, _, _, _ => none
  | k + 1, x0, x1, x2, x3, x4, x5, x6, x7 => s0c (transomref08_Check.f k) (transomref04_Check.f k) (s0 k) (s1 k) x0 x1 x2 x3 x4 x5 x6 x7 some
def s1 : Nat → ByteArray → Int → Bool → Int → Int → Int → ByteArray → Option Int
  | 0, _, _, _, _, _, _, _ => none
  | k + 1, x0, x1, x2, x3, x4, x5, x6 => s1c (transomref08_Check.f k) (transomref04_Check.f k) (s0 k) (s1 k) x0 x1 x2 x3 x4 x5 x6 some
end
def f (k : Nat) (a0 : ByteArray) (a1 : Int) (a2 : Bool) (a3 : Int) (a4 : Int) (a5 : Int) (a6 : ByteArray) : Option Int := c (transomref08_Check.f k) (transomref04_Check.f k) (s0 k) (s1 k) a0 a1 a2 a3 a4 a5 a6 some
theorem is {g64 : transomref08_Check.G} {g68 : transomref04_Check.G} {s0 : S0} {s1 : S1} : FnIs (env g64 g68 s0 s1) 65 f65 := ⟨func65, rfl, rfl, rfl, by decide⟩
theorem envok {g64 : transomref08_Check.G} {g68 : transomref04_Check.G} {s0 : S0} {s1 : S1} (h64 : CtOK prog 64 (transomref08_Check.ct g64)) (h68 : CtOK prog 68 (transomref04_Check.ct g68)) : EnvOK (env g64 g68 s0 s1).toEnv := by
  intro f c h
  simp only [env] at h
  split at h
  · rename_i e; subst e; cases h; exact h64
  split at h
  · rename_i e; subst e; cases h; exact h68
  simp at h
noncomputable abbrev E (k : Nat) : FEnv := env (transomref08_Check.f k) (transomref04_Check.f k) (s0 k) (s1 k)
theorem hE (k : Nat) : EnvOK (E k).toEnv := envok (transomref08_Check.ok k) (transomref04_Check.ok k)
theorem segs_ok : ∀ k, ∀ s ∈ (E k).segs, SegOK (E k) f65 s
  | 0 => by
    intro s hs
    simp only [E, env, List.mem_cons, List.not_mem_nil, or_false] at hs
    rcases hs with rfl | rfl
    · intro tvs blks res h; exfalso; simp only [sg0] at h; split at h <;> simp [s0] at h
    · intro tvs blks res h; exfalso; simp only [sg1] at h; split at h <;> simp [s1] at h
  | k + 1 => by
    intro s hs
    simp only [E, env, List.mem_cons, List.not_mem_nil, or_false] at hs
    rcases hs with rfl | rfl
    · refine seg_of_ev (E := E k) (hE k) ⟨is.rvs⟩ (segs_ok k) ?_
      intro tvs blks res h
      simp only [sg0] at h
      split at h
      · exact (s0_ev.trans s0c_bind).trans h
      · simp at h
    · refine seg_of_ev (E := E k) (hE k) ⟨is.rvs⟩ (segs_ok k) ?_
      intro tvs blks res h
      simp only [sg1] at h
      split at h
      · exact (s1_ev.trans s1c_bind).trans h
      · simp at h
theorem ok (k : Nat) : CtOK prog 65 (ct (f k)) := by
  refine ct_of_ev (E := E k) is (hE k) (segs_ok k) rfl ?_
  intro tvs blks res h
  simp only [ct] at h
  split at h
  · exact (ev.trans c_bind).trans h
  · simp at h
end transomref09_CheckCol
namespace transomref08_Find
abbrev G : Type := (List ByteArray) → ByteArray → Option Int
def ct (g : G) : Ct where
  nin := 0
  mv := []
  F := fun tvs blks {β} K => match tvs, blks with
    | [.v (.one (.d (.sl .str) a0)), .v (.one (.d .str a1))], [] => (g a0 a1).bind fun r => K ⟨.v (.one (.d (.int .i64) r)), []⟩
    | _, _ => none
  legit := fun _ _ K _ h => by split at h; exact (legit1 K h :); simp at h
abbrev S0 : Type := (List ByteArray) → ByteArray → Int → Option Int
def sg0 (g : S0) : Seg where
  path := [4, 1, 0, 1]
  prep := []
  keep := [0, 1, 5]
  F := fun tvs blks {β} K => match tvs, blks with
    | [.v (.one (.d (.sl .str) x0)), .v (.one (.d .str x1)), .v (.one (.d (.int .i64) x2))], [] => (g x0 x1 x2).bind fun r => K ⟨.v (.one (.d (.int .i64) r)), []⟩
    | _, _ => none
  legit := fun _ _ K _ h => by split at h; exact (legit1 K h :); simp at h
noncomputable def env  (s0 : S0) : FEnv := { P := prog, ct := fun m => none, N := 19, body := f83.body.getD .skip, rvs := [.tmp 4], rts := [3], nin := 0, rmv := [], segs := [sg0 s0] }
def c {β : Type}  (s0 : S0) (a0 : List ByteArray) (a1 : ByteArray) (ret : Int → Option β) : Option β := ((s0 a0 a1 (0 : Int)).bind ret)
def s0c {β : Type}  (s0 : S0) (x0 : List ByteArray) (x1 : ByteArray) (x2 : Int) (ret : Int → Option β) : Option β := (bif (decide (x2 < ((List.length x0) : Int))) then (bif ((decide ((0 : Int) ≤ x2)) && (decide (x2 < ((List.length x0) : Int)))) then (bif ((ByteArray.toList (elem Ty.str x0 x2)) == (ByteArray.toList x1)) then (ret (x2)) else ((s0 x0 x1 (IntKind.wrap IntKind.i64 (x2 + (1 : Int)))).bind ret)) else none) else (ret ((-1 : Int))))
theorem c_bind {β : Type}  {s0 : S0} {a0 : List ByteArray} {a1 : ByteArray} {ret : Int → Option β} : c  s0 a0 a1 ret = (c  s0 a0 a1 some).bind ret := by
  simp only [c, bif_bind, sum_bind, oa, os, on, ofs]
theorem s0c_bind {β : Type}  {s0 : S0} {x0 : List ByteArray} {x1 : ByteArray} {x2 : Int} {ret : Int → Option β} : s0c  s0 x0 x1 x2 ret = (s0c  s0 x0 x1 x2 some).bind ret := by
  simp only [s0c, bif_bind, sum_bind, oa, os, on, ofs]
theorem ev  {s0 : S0} {a0 : List ByteArray} {a1 : ByteArray} : evAt (env  s0) [] [0, 1] [.v (.one (.d (.sl .str) a0)), .v (.one (.d .str a1))] [] some = c  s0 a0 a1 (fun r => some ⟨.v (.one (.d (.int .i64) r)), []⟩) := by
  kernel_rfl
theorem s0_ev  {s0 : S0} {x0 : List ByteArray} {x1 : ByteArray} {x2 : Int} : evAt (env  s0) [4, 1, 0, 1] [0, 1, 5] [.v (.one (.d (.sl .str) x0)), .v (.one (.d .str x1)), .v (.one (.d (.int .i64) x2))] [] some = s0c  s0 x0 x1 x2 (fun r => some ⟨.v (.one (.d (.int .i64) r)), []⟩) := by
  kernel_rfl
def s0 : Nat → (List ByteArray) → ByteArray → Int → Option Int
  | 0, _, _, _ => none
  | k + 1, x0, x1, x2 => s0c  (s0 k) x0 x1 x2 some
def f (k : Nat) (a0 : List ByteArray) (a1 : ByteArray) : Option Int := c  (s0 k) a0 a1 some
theorem is  {s0 : S0} : FnIs (env  s0) 83 f83 := ⟨func83, rfl, rfl, rfl, by decide⟩
theorem envok  {s0 : S0}  : EnvOK (env  s0).toEnv := by
  intro f c h
  simp only [env] at h
  simp at h
noncomputable abbrev E (k : Nat) : FEnv := env  (s0 k)
theorem hE (k : Nat) : EnvOK (E k).toEnv := envok 
theorem segs_ok : ∀ k, ∀ s ∈ (E k).segs, SegOK (E k) f83 s
  | 0 => by
    intro s hs
    simp only [E, env, List.mem_cons, List.not_mem_nil, or_false] at hs
    rcases hs with rfl
    · intro tvs blks res h; exfalso; simp only [sg0] at h; split at h <;> simp [s0] at h
  | k + 1 => by
    intro s hs
    simp only [E, env, List.mem_cons, List.not_mem_nil, or_false] at hs
    rcases hs with rfl
    · refine seg_of_ev (E := E k) (hE k) ⟨is.rvs⟩ (segs_ok k) ?_
      intro tvs blks res h
      simp only [sg0] at h
      split at h
      · exact (s0_ev.trans s0c_bind).trans h
      · simp at h
theorem ok (k : Nat) : CtOK prog 83 (ct (f k)) := by
  refine ct_of_ev (E := E k) is (hE k) (segs_ok k) rfl ?_
  intro tvs blks res h
  simp only [ct] at h
  split at h
  · exact (ev.trans c_bind).trans h
  · simp at h
end transomref08_Find
end Go.Proofs.YtdbbkmmillnaiaaGreatDoor.Aev
