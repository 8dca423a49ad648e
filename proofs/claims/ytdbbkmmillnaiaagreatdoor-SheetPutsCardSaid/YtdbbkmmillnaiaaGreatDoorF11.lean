/- By a program of this session (AEV): functions of the program as plain functions, and that the machine does what they say. -/
import Derived.Test.YtdbbkmmillnaiaaGreatDoorTys
import Derived.Test.YtdbbkmmillnaiaaGreatDoorProg
import Derived.Laws.Externs
import Derived.Lib.Bytealg
import Derived.Test.YtdbbkmmillnaiaaGreatDoorF10
namespace Go.Proofs.YtdbbkmmillnaiaaGreatDoor.Aev
set_option linter.unusedVariables false
set_option linter.unusedSimpArgs false
set_option maxRecDepth 100000
set_option maxHeartbeats 4000000
open Go Go.Proofs.Tryz
namespace transomref01_Next
abbrev G : Type := ByteArray → Option (Int × Int × Int)
def ct (g : G) : Ct where
  nin := 0
  mv := []
  F := fun tvs blks {β} K => match tvs, blks with
    | [.v (.one (.d .str a0))], [] => (g a0).bind fun r => K ⟨.tup [(.one (.d (.int .i64) r.1)), (.one (.d (.int .i64) r.2.1)), (.one (.d (.int .i64) r.2.2))], []⟩
    | _, _ => none
  legit := fun _ _ K _ h => by split at h; exact (legit1 K h :); simp at h
abbrev S0 : Type := ByteArray → Int → Int → Int → Int → Option (Int × Int × Int)
abbrev S1 : Type := ByteArray → Int → Int → Int → Int → Option (Int × Int × Int)
abbrev S2 : Type := ByteArray → Int → Int → Int → Int → Int → Bool → Option (Int × Int × Int)
abbrev S3 : Type := ByteArray → Int → Int → Int → Int → Int → Option (Int × Int × Int)
abbrev S4 : Type := ByteArray → Int → Int → Int → Int → Option (Int × Int × Int)
def sg0 (g : S0) : Seg where
  path := [4, 1, 0, 1, 1, 1, 1, 1]
  prep := []
  keep := [0, 5, 6, 7, 8]
  F := fun tvs blks {β} K => match tvs, blks with
    | [.v (.one (.d .str x0)), .v (.one (.d (.int .i64) x1)), .v (.one (.d (.int .i64) x2)), .v (.one (.d (.int .i64) x3)), .v (.one (.d (.int .i64) x4))], [] => (g x0 x1 x2 x3 x4).bind fun r => K ⟨.tup [(.one (.d (.int .i64) r.1)), (.one (.d (.int .i64) r.2.1)), (.one (.d (.int .i64) r.2.2))], []⟩
    | _, _ => none
  legit := fun _ _ K _ h => by split at h; exact (legit1 K h :); simp at h
def sg1 (g : S1) : Seg where
  path := [4, 1, 0, 1, 1, 1, 1, 1, 1, 1]
  prep := []
  keep := [0, 5, 6, 7, 9]
  F := fun tvs blks {β} K => match tvs, blks with
    | [.v (.one (.d .str x0)), .v (.one (.d (.int .i64) x1)), .v (.one (.d (.int .i64) x2)), .v (.one (.d (.int .i64) x3)), .v (.one (.d (.int .i64) x4))], [] => (g x0 x1 x2 x3 x4).bind fun r => K ⟨.tup [(.one (.d (.int .i64) r.1)), (.one (.d (.int .i64) r.2.1)), (.one (.d (.int .i64) r.2.2))], []⟩
    | _, _ => none
  legit := fun _ _ K _ h => by split at h; exact (legit1 K h :); simp at h
def sg2 (g : S2) : Seg where
  path := [1, 0, 1, 1, 4, 0, 1, 5, 4, 1, 0, 1, 1, 1, 1, 1, 1, 1]
  prep := []
  keep := [0, 5, 6, 7, 9, 10, 60]
  F := fun tvs blks {β} K => match tvs, blks with
    | [.v (.one (.d .str x0)), .v (.one (.d (.int .i64) x1)), .v (.one (.d (.int .i64) x2)), .v (.one (.d (.int .i64) x3)), .v (.one (.d (.int .i64) x4)), .v (.one (.d (.int .i64) x5)), .v (.one (.d .bool x6))], [] => (g x0 x1 x2 x3 x4 x5 x6).bind fun r => K ⟨.tup [(.one (.d (.int .i64) r.1)), (.one (.d (.int .i64) r.2.1)), (.one (.d (.int .i64) r.2.2))], []⟩
    | _, _ => none
  legit := fun _ _ K _ h => by split at h; exact (legit1 K h :); simp at h
def sg3 (g : S3) : Seg where
  path := [1, 1, 1, 4, 0, 1, 5, 4, 1, 0, 1, 1, 1, 1, 1, 1, 1]
  prep := []
  keep := [0, 5, 6, 7, 9, 10]
  F := fun tvs blks {β} K => match tvs, blks with
    | [.v (.one (.d .str x0)), .v (.one (.d (.int .i64) x1)), .v (.one (.d (.int .i64) x2)), .v (.one (.d (.int .i64) x3)), .v (.one (.d (.int .i64) x4)), .v (.one (.d (.int .i64) x5))], [] => (g x0 x1 x2 x3 x4 x5).bind fun r => K ⟨.tup [(.one (.d (.int .i64) r.1)), (.one (.d (.int .i64) r.2.1)), (.one (.d (.int .i64) r.2.2))], []⟩
    | _, _ => none
  legit := fun _ _ K _ h => by split at h; exact (legit1 K h :); simp at h
def sg4 (g : S4) : Seg where
  path := [1, 1, 5, 4, 1, 0, 1, 1, 1, 1, 1, 1, 1]
  prep := []
  keep := [0, 5, 6, 7, 9]
  F := fun tvs blks {β} K => match tvs, blks with
    | [.v (.one (.d .str x0)), .v (.one (.d (.int .i64) x1)), .v (.one (.d (.int .i64) x2)), .v (.one (.d (.int .i64) x3)), .v (.one (.d (.int .i64) x4))], [] => (g x0 x1 x2 x3 x4).bind fun r => K ⟨.tup [(.one (.d (.int .i64) r.1)), (.one (.d (.int .i64) r.2.1)), (.one (.d (.int .i64) r.2.2))], []⟩
    | _, _ => none
  legit := fun _ _ K _ h => by split at h; exact (legit1 K h :); simp at h
noncomputable def env (g96 : transomref01_lead.G) (g97 : transomref01_among.G) (s0 : S0) (s1 : S1) (s2 : S2) (s3 : S3) (s4 : S4) : FEnv := { P := prog, ct := fun m => if m = 96 then some (transomref01_lead.ct g96) else if m = 97 then some (transomref01_among.ct g97) else none, N := 82, body := f95.body.getD .skip, rvs := [.tmp 2, .tmp 3, .tmp 4], rts := [3, 3, 3], nin := 0, rmv := [], segs := [sg0 s0, sg1 s1, sg2 s2, sg3 s3, sg4 s4] }
def c {β : Type} (g96 : transomref01_lead.G) (g97 : transomref01_among.G) (s0 : S0) (s1 : S1) (s2 : S2) (s3 : S3) (s4 : S4) (a0 : ByteArray) (ret : (Int × Int × Int) → Option β) : Option β := (bif (((ByteArray.size a0) : Int) == (0 : Int)) then (ret ((0 : Int), (0 : Int), (3 : Int))) else (bif (true && (decide ((0 : Int) < ((ByteArray.size a0) : Int)))) then ((g96 (IntKind.wrap IntKind.i64 (bt a0 (0 : Int)))).bind fun r0 => (bif (r0.1 == (0 : Int)) then (ret ((0 : Int), (0 : Int), (7 : Int))) else ((s0 a0 r0.1 r0.2 (1 : Int) (1 : Int)).bind ret))) else none))
def s0c {β : Type} (g96 : transomref01_lead.G) (g97 : transomref01_among.G) (s0 : S0) (s1 : S1) (s2 : S2) (s3 : S3) (s4 : S4) (x0 : ByteArray) (x1 : Int) (x2 : Int) (x3 : Int) (x4 : Int) (ret : (Int × Int × Int) → Option β) : Option β := (bif (decide (x4 < x1)) then ((s0 x0 x1 x2 (IntKind.wrap IntKind.i64 (x3 * (64 : Int))) (IntKind.wrap IntKind.i64 (x4 + (1 : Int)))).bind ret) else ((g97 (IntKind.wrap IntKind.i64 (x2 * x3)) (IntKind.wrap IntKind.i64 ((IntKind.wrap IntKind.i64 ((IntKind.wrap IntKind.i64 (x2 * x3)) + x3)) - (1 : Int))) x1).bind fun r0 => (bif (!r0) then (ret ((0 : Int), (0 : Int), (7 : Int))) else ((s1 x0 x1 x2 x3 (1 : Int)).bind ret))))
def s1c {β : Type} (g96 : transomref01_lead.G) (g97 : transomref01_among.G) (s0 : S0) (s1 : S1) (s2 : S2) (s3 : S3) (s4 : S4) (x0 : ByteArray) (x1 : Int) (x2 : Int) (x3 : Int) (x4 : Int) (ret : (Int × Int × Int) → Option β) : Option β := (bif (decide (x4 < x1)) then (bif (decide (x4 ≥ ((ByteArray.size x0) : Int))) then (ret ((0 : Int), (0 : Int), (3 : Int))) else (bif ((decide ((0 : Int) ≤ x4)) && (decide (x4 < ((ByteArray.size x0) : Int)))) then (bif (decide ((IntKind.wrap IntKind.i64 (bt x0 x4)) < (128 : Int))) then ((s2 x0 x1 x2 x3 x4 (IntKind.wrap IntKind.i64 (bt x0 x4)) true).bind ret) else ((s2 x0 x1 x2 x3 x4 (IntKind.wrap IntKind.i64 (bt x0 x4)) (decide ((IntKind.wrap IntKind.i64 (bt x0 x4)) > (191 : Int)))).bind ret)) else none)) else (ret (x2, x1, (0 : Int))))
def s2c {β : Type} (g96 : transomref01_lead.G) (g97 : transomref01_among.G) (s0 : S0) (s1 : S1) (s2 : S2) (s3 : S3) (s4 : S4) (x0 : ByteArray) (x1 : Int) (x2 : Int) (x3 : Int) (x4 : Int) (x5 : Int) (x6 : Bool) (ret : (Int × Int × Int) → Option β) : Option β := (bif x6 then (ret ((0 : Int), (0 : Int), (7 : Int))) else ((s3 x0 x1 x2 x3 x4 x5).bind ret))
def s3c {β : Type} (g96 : transomref01_lead.G) (g97 : transomref01_among.G) (s0 : S0) (s1 : S1) (s2 : S2) (s3 : S3) (s4 : S4) (x0 : ByteArray) (x1 : Int) (x2 : Int) (x3 : Int) (x4 : Int) (x5 : Int) (ret : (Int × Int × Int) → Option β) : Option β := ((g97 (IntKind.wrap IntKind.i64 ((IntKind.wrap IntKind.i64 ((IntKind.wrap IntKind.i64 ((IntKind.wrap IntKind.i64 (x2 * (64 : Int))) + x5)) - (128 : Int))) * (IntKind.wrap IntKind.i64 (Int.tdiv x3 (64 : Int))))) (IntKind.wrap IntKind.i64 ((IntKind.wrap IntKind.i64 ((IntKind.wrap IntKind.i64 ((IntKind.wrap IntKind.i64 ((IntKind.wrap IntKind.i64 ((IntKind.wrap IntKind.i64 (x2 * (64 : Int))) + x5)) - (128 : Int))) * (IntKind.wrap IntKind.i64 (Int.tdiv x3 (64 : Int))))) + (IntKind.wrap IntKind.i64 (Int.tdiv x3 (64 : Int))))) - (1 : Int))) x1).bind fun r0 => (bif (!r0) then (ret ((0 : Int), (0 : Int), (7 : Int))) else ((s4 x0 x1 (IntKind.wrap IntKind.i64 ((IntKind.wrap IntKind.i64 ((IntKind.wrap IntKind.i64 (x2 * (64 : Int))) + x5)) - (128 : Int))) (IntKind.wrap IntKind.i64 (Int.tdiv x3 (64 : Int))) x4).bind ret)))
def s4c {β : Type} (g96 : transomref01_lead.G) (g97 : transomref01_among.G) (s0 : S0) (s1 : S1) (s2 : S2) (s3 : S3) (s4 : S4) (x0 : ByteArray) (x1 : Int) (x2 : Int) (x3 : Int) (x4 : Int) (ret : (Int × Int × Int) → Option β) : Option β := ((s1 x0 x1 x2 x3 (IntKind.wrap IntKind.i64 (x4 + (1 : Int)))).bind ret)
theorem c_bind {β : Type} {g96 : transomref01_lead.G} {g97 : transomref01_among.G} {s0 : S0} {s1 : S1} {s2 : S2} {s3 : S3} {s4 : S4} {a0 : ByteArray} {ret : (Int × Int × Int) → Option β} : c g96 g97 s0 s1 s2 s3 s4 a0 ret = (c g96 g97 s0 s1 s2 s3 s4 a0 some).bind ret := by
  simp only [c, bif_bind, sum_bind, oa, os, on, ofs]
theorem s0c_bind {β : Type} {g96 : transomref01_lead.G} {g97 : transomref01_among.G} {s0 : S0} {s1 : S1} {s2 : S2} {s3 : S3} {s4 : S4} {x0 : ByteArray} {x1 : Int} {x2 : Int} {x3 : Int} {x4 : Int} {ret : (Int × Int × Int) → Option β} : s0c g96 g97 s0 s1 s2 s3 s4 x0 x1 x2 x3 x4 ret = (s0c g96 g97 s0 s1 s2 s3 s4 x0 x1 x2 x3 x4 some).bind ret := by
  simp only [s0c, bif_bind, sum_bind, oa, os, on, ofs]
theorem s1c_bind {β : Type} {g96 : transomref01_lead.G} {g97 : transomref01_among.G} {s0 : S0} {s1 : S1} {s2 : S2} {s3 : S3} {s4 : S4} {x0 : ByteArray} {x1 : Int} {x2 : Int} {x3 : Int} {x4 : Int} {ret : (Int × Int × Int) → Option β} : s1c g96 g97 s0 s1 s2 s3 s4 x0 x1 x2 x3 x4 ret = (s1c g96 g97 s0 s1 s2 s3 s4 x0 x1 x2 x3 x4 some).bind ret := by
  simp only [s1c, bif_bind, sum_bind, oa, os, on, ofs]
theorem s2c_bind {β : Type} {g96 : transomref01_lead.G} {g97 : transomref01_among.G} {s0 : S0} {s1 : S1} {s2 : S2} {s3 : S3} {s4 : S4} {x0 : ByteArray} {x1 : Int} {x2 : Int} {x3 : Int} {x4 : Int} {x5 : Int} {x6 : Bool} {ret : (Int × Int × Int) → Option β} : s2c g96 g97 s0 s1 s2 s3 s4 x0 x1 x2 x3 x4 x5 x6 ret = (s2c g96 g97 s0 s1 s2 s3 s4 x0 x1 x2 x3 x4 x5 x6 some).bind ret := by
  simp only [s2c, bif_bind, sum_bind, oa, os, on, ofs]
theorem s3c_bind {β : Type} {g96 : transomref01_lead.G} {g97 : transomref01_among.G} {s0 : S0} {s1 : S1} {s2 : S2} {s3 : S3} {s4 : S4} {x0 : ByteArray} {x1 : Int} {x2 : Int} {x3 : Int} {x4 : Int} {x5 : Int} {ret : (Int × Int × Int) → Option β} : s3c g96 g97 s0 s1 s2 s3 s4 x0 x1 x2 x3 x4 x5 ret = (s3c g96 g97 s0 s1 s2 s3 s4 x0 x1 x2 x3 x4 x5 some).bind ret := by
  simp only [s3c, bif_bind, sum_bind, oa, os, on, ofs]
theorem s4c_bind {β : Type} {g96 : transomref01_lead.G} {g97 : transomref01_among.G} {s0 : S0} {s1 : S1} {s2 : S2} {s3 : S3} {s4 : S4} {x0 : ByteArray} {x1 : Int} {x2 : Int} {x3 : Int} {x4 : Int} {ret : (Int × Int × Int) → Option β} : s4c g96 g97 s0 s1 s2 s3 s4 x0 x1 x2 x3 x4 ret = (s4c g96 g97 s0 s1 s2 s3 s4 x0 x1 x2 x3 x4 some).bind ret := by
  simp only [s4c, bif_bind, sum_bind, oa, os, on, ofs]
theorem ev {g96 : transomref01_lead.G} {g97 : transomref01_among.G} {s0 : S0} {s1 : S1} {s2 : S2} {s3 : S3} {s4 : S4} {a0 : ByteArray} : evAt (env g96 g97 s0 s1 s2 s3 s4) [] [0] [.v (.one (.d .str a0))] [] some = c g96 g97 s0 s1 s2 s3 s4 a0 (fun r => some ⟨.tup [(.one (.d (.int .i64) r.1)), (.one (.d (.int .i64) r.2.1)), (.one (.d (.int .i64) r.2.2))], []⟩) := by
  kernel_rfl
theorem s0_ev {g96 : transomref01_lead.G} {g97 : transomref01_among.G} {s0 : S0} {s1 : S1} {s2 : S2} {s3 : S3} {s4 : S4} {x0 : ByteArray} {x1 : Int} {x2 : Int} {x3 : Int} {x4 : Int} : evAt (env g96 g97 s0 s1 s2 s3 s4) [4, 1, 0, 1, 1, 1, 1, 1] [0, 5, 6, 7, 8] [.v (.one (.d .str x0)), .v (.one (.d (.int .i64) x1)), .v (.one (.d (.int .i64) x2)), .v (.one (.d (.int .i64) x3)), .v (.one (.d (.int .i64) x4))] [] some = s0c g96 g97 s0 s1 s2 s3 s4 x0 x1 x2 x3 x4 (fun r => some ⟨.tup [(.one (.d (.int .i64) r.1)), (.one (.d (.int .i64) r.2.1)), (.one (.d (.int .i64) r.2.2))], []⟩) := by
  kernel_rfl
theorem s1_ev {g96 : transomref01_lead.G} {g97 : transomref01_among.G} {s0 : S0} {s1 : S1} {s2 : S2} {s3 : S3} {s4 : S4} {x0 : ByteArray} {x1 : Int} {x2 : Int} {x3 : Int} {x4 : Int} : evAt (env g96 g97 s0 s1 s2 s3 s4) [4, 1, 0, 1, 1, 1, 1, 1, 1, 1] [0, 5, 6, 7, 9] [.v (.one (.d .str x0)), .v (.one (.d (.int .i64) x1)), .v (.one (.d (.int .i64) x2)), .v (.one (.d (.int .i64) x3)), .v (.one (.d (.int .i64) x4))] [] some = s1c g96 g97 s0 s1 s2 s3 s4 x0 x1 x2 x3 x4 (fun r => some ⟨.tup [(.one (.d (.int .i64) r.1)), (.one (.d (.int .i64) r.2.1)), (.one (.d (.int .i64) r.2.2))], []⟩) := by
  kernel_rfl
theorem s2_ev {g96 : transomref01_lead.G} {g97 : transomref01_among.G} {s0 : S0} {s1 : S1} {s2 : S2} {s3 : S3} {s4 : S4} {x0 : ByteArray} {x1 : Int} {x2 : Int} {x3 : Int} {x4 : Int} {x5 : Int} {x6 : Bool} : evAt (env g96 g97 s0 s1 s2 s3 s4) [1, 0, 1, 1, 4, 0, 1, 5, 4, 1, 0, 1, 1, 1, 1, 1, 1, 1] [0, 5, 6, 7, 9, 10, 60] [.v (.one (.d .str x0)), .v (.one (.d (.int .i64) x1)), .v (.one (.d (.int .i64) x2)), .v (.one (.d (.int .i64) x3)), .v (.one (.d (.int .i64) x4)), .v (.one (.d (.int .i64) x5)), .v (.one (.d .bool x6))] [] some = s2c g96 g97 s0 s1 s2 s3 s4 x0 x1 x2 x3 x4 x5 x6 (fun r => some ⟨.tup [(.one (.d (.int .i64) r.1)), (.one (.d (.int .i64) r.2.1)), (.one (.d (.int .i64) r.2.2))], []⟩) := by
  kernel_rfl
theorem s3_ev {g96 : transomref01_lead.G} {g97 : transomref01_among.G} {s0 : S0} {s1 : S1} {s2 : S2} {s3 : S3} {s4 : S4} {x0 : ByteArray} {x1 : Int} {x2 : Int} {x3 : Int} {x4 : Int} {x5 : Int} : evAt (env g96 g97 s0 s1 s2 s3 s4) [1, 1, 1, 4, 0, 1, 5, 4, 1, 0, 1, 1, 1, 1, 1, 1, 1] [0, 5, 6, 7, 9, 10] [.v (.one (.d .str x0)), .v (.one (.d (.int .i64) x1)), .v (.one (.d (.int .i64) x2)), .v (.one (.d (.int .i64) x3)), .v (.one (.d (.int .i64) x4)), .v (.one (.d (.int .i64) x5))] [] some = s3c g96 g97 s0 s1 s2 s3 s4 x0 x1 x2 x3 x4 x5 (fun r => some ⟨.tup [(.one (.d (.int .i64) r.1)), (.one (.d (.int .i64) r.2.1)), (.one (.d (.int .i64) r.2.2))], []⟩) := by
  kernel_rfl
theorem s4_ev {g96 : transomref01_lead.G} {g97 : transomref01_among.G} {s0 : S0} {s1 : S1} {s2 : S2} {s3 : S3} {s4 : S4} {x0 : ByteArray} {x1 : Int} {x2 : Int} {x3 : Int} {x4 : Int} : evAt (env g96 g97 s0 s1 s2 s3 s4) [1, 1, 5, 4, 1, 0, 1, 1, 1, 1, 1, 1, 1] [0, 5, 6, 7, 9] [.v (.one (.d .str x0)), .v (.one (.d (.int .i64) x1)), .v (.one (.d (.int .i64) x2)), .v (.one (.d (.int .i64) x3)), .v (.one (.d (.int .i64) x4))] [] some = s4c g96 g97 s0 s1 s2 s3 s4 x0 x1 x2 x3 x4 (fun r => some ⟨.tup [(.one (.d (.int .i64) r.1)), (.one (.d (.int .i64) r.2.1)), (.one (.d (.int .i64) r.2.2))], []⟩) := by
  kernel_rfl
mutual
def s0 : Nat → ByteArray → Int → Int → Int → Int → Option (Int × Int × Int)
  | 0, _, _, _, _, _ => none
  | k + 1, x0, x1, x2, x3, x4 => s0c (transomref01_lead.f k) (transomref01_among.f k) (s0 k) (s1 k) (s2 k) (s3 k) (s4 k) x0 x1 x2 x3 x4 some
def s1 : Nat → ByteArray → Int → Int → Int → Int → Option (Int × Int × Int)
  | 0, _, _, _, _, _ => none
  | k + 1, x0, x1, x2, x3, x4 => s1c (transomref01_lead.f k) (transomref01_among.f k) (s0 k) (s1 k) (s2 k) (s3 k) (s4 k) x0 x1 x2 x3 x4 some
def s2 : Nat → ByteArray → Int → Int → Int → Int → Int → Bool → Option (Int × Int × Int)
  | 0, _, _, _, _, _, _, _ => none
  | k + 1, x0, x1, x2, x3, x4, x5, x6 => s2c (transomref01_lead.f k) (transomref01_among.f k) (s0 k) (s1 k) (s2 k) (s3 k) (s4 k) x0 x1 x2 x3 x4 x5 x6 some
def s3 : Nat → ByteArray → Int → Int → Int → Int → Int → Option (Int × Int × Int)
  | 0, _, _, _, _, _, _ => none
  | k + 1, x0, x1, x2, x3, x4, x5 => s3c (transomref01_lead.f k) (transomref01_among.f k) (s0 k) (s1 k) (s2 k) (s3 k) (s4 k) x0 x1 x2 x3 x4 x5 some
def s4 : Nat → ByteArray → Int → Int → Int → Int → Option (Int × Int × Int)
  | 0, _, _, _, _, _ => none
  | k + 1, x0, x1, x2, x3, x4 => s4c (transomref01_lead.f k) (transomref01_among.f k) (s0 k) (s1 k) (s2 k) (s3 k) (s4 k) x0 x1 x2 x3 x4 some
end
def f (k : Nat) (a0 : ByteArray) : Option (Int × Int × Int) := c (transomref01_lead.f k) (transomref01_among.f k) (s0 k) (s1 k) (s2 k) (s3 k) (s4 k) a0 some
theorem is {g96 : transomref01_lead.G} {g97 : transomref01_among.G} {s0 : S0} {s1 : S1} {s2 : S2} {s3 : S3} {s4 : S4} : FnIs (env g96 g97 s0 s1 s2 s3 s4) 95 f95 := ⟨func95, rfl, rfl, rfl, by decide⟩
theorem envok {g96 : transomref01_lead.G} {g97 : transomref01_among.G} {s0 : S0} {s1 : S1} {s2 : S2} {s3 : S3} {s4 : S4} (h96 : CtOK prog 96 (transomref01_lead.ct g96)) (h97 : CtOK prog 97 (transomref01_among.ct g97)) : EnvOK (env g96 g97 s0 s1 s2 s3 s4).toEnv := by
  intro f c h
  simp only [env] at h
  split at h
  · rename_i e; subst e; cases h; exact h96
  split at h
  · rename_i e; subst e; cases h; exact h97
  simp at h
noncomputable abbrev E (k : Nat) : FEnv := env (transomref01_lead.f k) (transomref01_among.f k) (s0 k) (s1 k) (s2 k) (s3 k) (s4 k)
theorem hE (k : Nat) : EnvOK (E k).toEnv := envok (transomref01_lead.ok k) (transomref01_among.ok k)
theorem segs_ok : ∀ k, ∀ s ∈ (E k).segs, SegOK (E k) f95 s
  | 0 => by
    intro s hs
    simp only [E, env, List.mem_cons, List.not_mem_nil, or_false] at hs
    rcases hs with rfl | rfl | rfl | rfl | rfl
    · intro tvs blks res h; exfalso; simp only [sg0] at h; split at h <;> simp [s0] at h
    · intro tvs blks res h; exfalso; simp only [sg1] at h; split at h <;> simp [s1] at h
    · intro tvs blks res h; exfalso; simp only [sg2] at h; split at h <;> simp [s2] at h
    · intro tvs blks res h; exfalso; simp only [sg3] at h; split at h <;> simp [s3] at h
    · intro tvs blks res h; exfalso; simp only [sg4] at h; split at h <;> simp [s4] at h
  | k + 1 => by
    intro s hs
    simp only [E, env, List.mem_cons, List.not_mem_nil, or_false] at hs
    rcases hs with rfl | rfl | rfl | rfl | rfl
    · refine seg_of_ev (E := E k) (hE k) ⟨is.rvs⟩ (segs_ok k) ?_
      intro tvs blks res h
      simp only [sg0] at h
      split at h
      · exact (s0_ev.trans s0c_bind).trans h
      · simp at h
    · refine seg_of_ev (E := E k) (hE k) ⟨is.rvs⟩ (segs_ok k) ?_
      intro tvs blks res h
      simp only [sg1] at h
      split at h
      · exact (s1_ev.trans s1c_bind).trans h
      · simp at h
    · refine seg_of_ev (E := E k) (hE k) ⟨is.rvs⟩ (segs_ok k) ?_
      intro tvs blks res h
      simp only [sg2] at h
      split at h
      · exact (s2_ev.trans s2c_bind).trans h
      · simp at h
    · refine seg_of_ev (E := E k) (hE k) ⟨is.rvs⟩ (segs_ok k) ?_
      intro tvs blks res h
      simp only [sg3] at h
      split at h
      · exact (s3_ev.trans s3c_bind).trans h
      · simp at h
    · refine seg_of_ev (E := E k) (hE k) ⟨is.rvs⟩ (segs_ok k) ?_
      intro tvs blks res h
      simp only [sg4] at h
      split at h
      · exact (s4_ev.trans s4c_bind).trans h
      · simp at h
theorem ok (k : Nat) : CtOK prog 95 (ct (f k)) := by
  refine ct_of_ev (E := E k) is (hE k) (segs_ok k) rfl ?_
  intro tvs blks res h
  simp only [ct] at h
  split at h
  · exact (ev.trans c_bind).trans h
  · simp at h
end transomref01_Next
namespace transomref01_Count
abbrev G : Type := ByteArray → Option Int
def ct (g : G) : Ct where
  nin := 0
  mv := []
  F := fun tvs blks {β} K => match tvs, blks with
    | [.v (.one (.d .str a0))], [] => (g a0).bind fun r => K ⟨.v (.one (.d (.int .i64) r)), []⟩
    | _, _ => none
  legit := fun _ _ K _ h => by split at h; exact (legit1 K h :); simp at h
abbrev S0 : Type := ByteArray → Int → Int → Option Int
def sg0 (g : S0) : Seg where
  path := [4, 1, 0, 1, 1]
  prep := []
  keep := [0, 3, 4]
  F := fun tvs blks {β} K => match tvs, blks with
    | [.v (.one (.d .str x0)), .v (.one (.d (.int .i64) x1)), .v (.one (.d (.int .i64) x2))], [] => (g x0 x1 x2).bind fun r => K ⟨.v (.one (.d (.int .i64) r)), []⟩
    | _, _ => none
  legit := fun _ _ K _ h => by split at h; exact (legit1 K h :); simp at h
noncomputable def env (g95 : transomref01_Next.G) (s0 : S0) : FEnv := { P := prog, ct := fun m => if m = 95 then some (transomref01_Next.ct g95) else none, N := 28, body := f91.body.getD .skip, rvs := [.tmp 2], rts := [3], nin := 0, rmv := [], segs := [sg0 s0] }
def c {β : Type} (g95 : transomref01_Next.G) (s0 : S0) (a0 : ByteArray) (ret : Int → Option β) : Option β := ((s0 a0 (0 : Int) (0 : Int)).bind ret)
def s0c {β : Type} (g95 : transomref01_Next.G) (s0 : S0) (x0 : ByteArray) (x1 : Int) (x2 : Int) (ret : Int → Option β) : Option β := (bif (decide (x2 < ((ByteArray.size x0) : Int))) then (bif (((decide ((0 : Int) ≤ x2)) && (decide (x2 ≤ ((ByteArray.size x0) : Int)))) && (decide (((ByteArray.size x0) : Int) ≤ ((ByteArray.size x0) : Int)))) then ((g95 (ByteArray.extract x0 (Int.toNat x2) (Int.toNat ((ByteArray.size x0) : Int)))).bind fun r0 => (bif (r0.2.2 != (0 : Int)) then (ret ((-1 : Int))) else ((s0 x0 (IntKind.wrap IntKind.i64 (x1 + (1 : Int))) (IntKind.wrap IntKind.i64 (x2 + r0.2.1))).bind ret))) else none) else (ret (x1)))
theorem c_bind {β : Type} {g95 : transomref01_Next.G} {s0 : S0} {a0 : ByteArray} {ret : Int → Option β} : c g95 s0 a0 ret = (c g95 s0 a0 some).bind ret := by
  simp only [c, bif_bind, sum_bind, oa, os, on, ofs]
theorem s0c_bind {β : Type} {g95 : transomref01_Next.G} {s0 : S0} {x0 : ByteArray} {x1 : Int} {x2 : Int} {ret : Int → Option β} : s0c g95 s0 x0 x1 x2 ret = (s0c g95 s0 x0 x1 x2 some).bind ret := by
  simp only [s0c, bif_bind, sum_bind, oa, os, on, ofs]
theorem ev {g95 : transomref01_Next.G} {s0 : S0} {a0 : ByteArray} : evAt (env g95 s0) [] [0] [.v (.one (.d .str a0))] [] some = c g95 s0 a0 (fun r => some ⟨.v (.one (.d (.int .i64) r)), []⟩) := by
  kernel_rfl
theorem s0_ev {g95 : transomref01_Next.G} {s0 : S0} {x0 : ByteArray} {x1 : Int} {x2 : Int} : evAt (env g95 s0) [4, 1, 0, 1, 1] [0, 3, 4] [.v (.one (.d .str x0)), .v (.one (.d (.int .i64) x1)), .v (.one (.d (.int .i64) x2))] [] some = s0c g95 s0 x0 x1 x2 (fun r => some ⟨.v (.one (.d (.int .i64) r)), []⟩) := by
  kernel_rfl
def s0 : Nat → ByteArray → Int → Int → Option Int
  | 0, _, _, _ => none
  | k + 1, x0, x1, x2 => s0c (transomref01_Next.f k) (s0 k) x0 x1 x2 some
def f (k : Nat) (a0 : ByteArray) : Option Int := c (transomref01_Next.f k) (s0 k) a0 some
theorem is {g95 : transomref01_Next.G} {s0 : S0} : FnIs (env g95 s0) 91 f91 := ⟨func91, rfl, rfl, rfl, by decide⟩
theorem envok {g95 : transomref01_Next.G} {s0 : S0} (h95 : CtOK prog 95 (transomref01_Next.ct g95)) : EnvOK (env g95 s0).toEnv := by
  intro f c h
  simp only [env] at h
  split at h
  · rename_i e; subst e; cases h; exact h95
  simp at h
noncomputable abbrev E (k : Nat) : FEnv := env (transomref01_Next.f k) (s0 k)
theorem hE (k : Nat) : EnvOK (E k).toEnv := envok (transomref01_Next.ok k)
theorem segs_ok : ∀ k, ∀ s ∈ (E k).segs, SegOK (E k) f91 s
  | 0 => by
    intro s hs
    simp only [E, env, List.mem_cons, List.not_mem_nil, or_false] at hs
    rcases hs with rfl
    · intro tvs blks res h; exfalso; simp only [sg0] at h; split at h <;> simp [s0] at h
  | k + 1 => by
    intro s hs
    simp only [E, env, List.mem_cons, List.not_mem_nil, or_false] at hs
    rcases hs with rfl
    · refine seg_of_ev (E := E k) (hE k) ⟨is.rvs⟩ (segs_ok k) ?_
      intro tvs blks res h
      simp only [sg0] at h
      split at h
      · exact (s0_ev.trans s0c_bind).trans h
      · simp at h
theorem ok (k : Nat) : CtOK prog 91 (ct (f k)) := by
  refine ct_of_ev (E := E k) is (hE k) (segs_ok k) rfl ?_
  intro tvs blks res h
  simp only [ct] at h
  split at h
  · exact (ev.trans c_bind).trans h
  · simp at h
end transomref01_Count
namespace transomref01_Valid
abbrev G : Type := ByteArray → Option Bool
def ct (g : G) : Ct where
  nin := 0
  mv := []
  F := fun tvs blks {β} K => match tvs, blks with
    | [.v (.one (.d .str a0))], [] => (g a0).bind fun r => K ⟨.v (.one (.d .bool r)), []⟩
    | _, _ => none
  legit := fun _ _ K _ h => by split at h; exact (legit1 K h :); simp at h
noncomputable def env (g91 : transomref01_Count.G)  : FEnv := { P := prog, ct := fun m => if m = 91 then some (transomref01_Count.ct g91) else none, N := 6, body := f85.body.getD .skip, rvs := [.tmp 2], rts := [4], nin := 0, rmv := [], segs := [] }
def c {β : Type} (g91 : transomref01_Count.G)  (a0 : ByteArray) (ret : Bool → Option β) : Option β := ((g91 a0).bind fun r0 => (ret ((decide (r0 ≥ (0 : Int))))))
theorem c_bind {β : Type} {g91 : transomref01_Count.G}  {a0 : ByteArray} {ret : Bool → Option β} : c g91  a0 ret = (c g91  a0 some).bind ret := by
  simp only [c, bif_bind, sum_bind, oa, os, on, ofs]
theorem ev {g91 : transomref01_Count.G}  {a0 : ByteArray} : evAt (env g91 ) [] [0] [.v (.one (.d .str a0))] [] some = c g91  a0 (fun r => some ⟨.v (.one (.d .bool r)), []⟩) := by
  kernel_rfl
def f (k : Nat) (a0 : ByteArray) : Option Bool := c (transomref01_Count.f k)  a0 some
theorem is {g91 : transomref01_Count.G}  : FnIs (env g91 ) 85 f85 := ⟨func85, rfl, rfl, rfl, by decide⟩
theorem envok {g91 : transomref01_Count.G}  (h91 : CtOK prog 91 (transomref01_Count.ct g91)) : EnvOK (env g91 ).toEnv := by
  intro f c h
  simp only [env] at h
  split at h
  · rename_i e; subst e; cases h; exact h91
  simp at h
noncomputable abbrev E (k : Nat) : FEnv := env (transomref01_Count.f k) 
theorem hE (k : Nat) : EnvOK (E k).toEnv := envok (transomref01_Count.ok k)
theorem ok (k : Nat) : CtOK prog 85 (ct (f k)) := by
  refine ct_of_ev (E := E k) is (hE k) (fun s hs => by simp [E, env] at hs) rfl ?_
  intro tvs blks res h
  simp only [ct] at h
  split at h
  · exact (ev.trans c_bind).trans h
  · simp at h
end transomref01_Valid
end Go.Proofs.YtdbbkmmillnaiaaGreatDoor.Aev
