/- By a program of this session (AEV): functions of the program as plain functions, and that the machine does what they say. -/
import Derived.Test.YtdbbkmmillnaiaaGreatDoorTys
import Derived.Test.YtdbbkmmillnaiaaGreatDoorProg
import Derived.Laws.Externs
import Derived.Lib.Bytealg
namespace Go.Proofs.YtdbbkmmillnaiaaGreatDoor.Aev
set_option linter.unusedVariables false
set_option linter.unusedSimpArgs false
set_option maxRecDepth 100000
set_option maxHeartbeats 4000000
open Go Go.Proofs.Tryz
namespace names_Check
abbrev G : Type := ByteArray → Option Int
def ct (g : G) : Ct where
  nin := 0
  mv := []
  F := fun tvs blks {β} K => match tvs, blks with
    | [.v (.one (.d .str a0))], [] => (g a0).bind fun r => K ⟨.v (.one (.d (.int .i64) r)), []⟩
    | _, _ => none
  legit := fun _ _ K _ h => by split at h; exact (legit1 K h :); simp at h
abbrev S0 : Type := ByteArray → Bool → Option Int
abbrev S1 : Type := ByteArray → Option Int
abbrev S2 : Type := (List Int) → Int → Int → Option Int
abbrev S3 : Type := Int → Int → Bool → (List Int) → Int → Int → Option Int
abbrev S4 : Type := Int → Bool → Bool → (List Int) → Int → Int → Option Int
abbrev S5 : Type := (List Int) → Int → Int → Bool → Option Int
abbrev S6 : Type := (List Int) → Int → Int → Option Int
def sg0 (g : S0) : Seg where
  path := [1, 0, 1]
  prep := []
  keep := [0, 13]
  F := fun tvs blks {β} K => match tvs, blks with
    | [.v (.one (.d .str x0)), .v (.one (.d .bool x1))], [] => (g x0 x1).bind fun r => K ⟨.v (.one (.d (.int .i64) r)), []⟩
    | _, _ => none
  legit := fun _ _ K _ h => by split at h; exact (legit1 K h :); simp at h
def sg1 (g : S1) : Seg where
  path := [1, 1]
  prep := []
  keep := [0]
  F := fun tvs blks {β} K => match tvs, blks with
    | [.v (.one (.d .str x0))], [] => (g x0).bind fun r => K ⟨.v (.one (.d (.int .i64) r)), []⟩
    | _, _ => none
  legit := fun _ _ K _ h => by split at h; exact (legit1 K h :); simp at h
def sg2 (g : S2) : Seg where
  path := [4, 1, 0, 1, 1]
  prep := []
  keep := [15, 16, 17]
  F := fun tvs blks {β} K => match tvs, blks with
    | [.v (.one (.d (.sl (.int .u8)) x0)), .v (.one (.d (.int .i64) x1)), .v (.one (.d (.int .i64) x2))], [] => (g x0 x1 x2).bind fun r => K ⟨.v (.one (.d (.int .i64) r)), []⟩
    | _, _ => none
  legit := fun _ _ K _ h => by split at h; exact (legit1 K h :); simp at h
def sg3 (g : S3) : Seg where
  path := [1, 1, 4, 0, 1, 1, 5, 4, 1, 0, 1, 1]
  prep := []
  keep := [3, 4, 5, 15, 16, 17]
  F := fun tvs blks {β} K => match tvs, blks with
    | [.v (.one (.d (.int .i64) x0)), .v (.one (.d (.int .u8) x1)), .v (.one (.d .bool x2)), .v (.one (.d (.sl (.int .u8)) x3)), .v (.one (.d (.int .i64) x4)), .v (.one (.d (.int .i64) x5))], [] => (g x0 x1 x2 x3 x4 x5).bind fun r => K ⟨.v (.one (.d (.int .i64) r)), []⟩
    | _, _ => none
  legit := fun _ _ K _ h => by split at h; exact (legit1 K h :); simp at h
def sg4 (g : S4) : Seg where
  path := [1, 1, 1, 4, 0, 1, 1, 5, 4, 1, 0, 1, 1]
  prep := []
  keep := [3, 5, 6, 15, 16, 17]
  F := fun tvs blks {β} K => match tvs, blks with
    | [.v (.one (.d (.int .i64) x0)), .v (.one (.d .bool x1)), .v (.one (.d .bool x2)), .v (.one (.d (.sl (.int .u8)) x3)), .v (.one (.d (.int .i64) x4)), .v (.one (.d (.int .i64) x5))], [] => (g x0 x1 x2 x3 x4 x5).bind fun r => K ⟨.v (.one (.d (.int .i64) r)), []⟩
    | _, _ => none
  legit := fun _ _ K _ h => by split at h; exact (legit1 K h :); simp at h
def sg5 (g : S5) : Seg where
  path := [1, 1, 1, 1, 4, 0, 1, 1, 5, 4, 1, 0, 1, 1]
  prep := []
  keep := [15, 16, 17, 47]
  F := fun tvs blks {β} K => match tvs, blks with
    | [.v (.one (.d (.sl (.int .u8)) x0)), .v (.one (.d (.int .i64) x1)), .v (.one (.d (.int .i64) x2)), .v (.one (.d .bool x3))], [] => (g x0 x1 x2 x3).bind fun r => K ⟨.v (.one (.d (.int .i64) r)), []⟩
    | _, _ => none
  legit := fun _ _ K _ h => by split at h; exact (legit1 K h :); simp at h
def sg6 (g : S6) : Seg where
  path := [1, 1, 1, 5, 4, 1, 0, 1, 1]
  prep := []
  keep := [15, 16, 17]
  F := fun tvs blks {β} K => match tvs, blks with
    | [.v (.one (.d (.sl (.int .u8)) x0)), .v (.one (.d (.int .i64) x1)), .v (.one (.d (.int .i64) x2))], [] => (g x0 x1 x2).bind fun r => K ⟨.v (.one (.d (.int .i64) r)), []⟩
    | _, _ => none
  legit := fun _ _ K _ h => by split at h; exact (legit1 K h :); simp at h
noncomputable def env  (s0 : S0) (s1 : S1) (s2 : S2) (s3 : S3) (s4 : S4) (s5 : S5) (s6 : S6) : FEnv := { P := prog, ct := fun m => none, N := 49, body := f51.body.getD .skip, rvs := [.tmp 2], rts := [32], nin := 0, rmv := [], segs := [sg0 s0, sg1 s1, sg2 s2, sg3 s3, sg4 s4, sg5 s5, sg6 s6] }
def c {β : Type}  (s0 : S0) (s1 : S1) (s2 : S2) (s3 : S3) (s4 : S4) (s5 : S5) (s6 : S6) (a0 : ByteArray) (ret : Int → Option β) : Option β := (bif ((ByteArray.toList a0) == (ByteArray.toList (ByteArray.mk (List.toArray [])))) then ((s0 a0 true).bind ret) else ((s0 a0 (decide (((ByteArray.size a0) : Int) > (16 : Int)))).bind ret))
def s0c {β : Type}  (s0 : S0) (s1 : S1) (s2 : S2) (s3 : S3) (s4 : S4) (s5 : S5) (s6 : S6) (x0 : ByteArray) (x1 : Bool) (ret : Int → Option β) : Option β := (bif x1 then (ret ((8 : Int))) else ((s1 x0).bind ret))
def s1c {β : Type}  (s0 : S0) (s1 : S1) (s2 : S2) (s3 : S3) (s4 : S4) (s5 : S5) (s6 : S6) (x0 : ByteArray) (ret : Int → Option β) : Option β := ((s2 (List.map (fun b => ((UInt8.toNat b) : Int)) (Array.toList (ByteArray.data x0))) ((List.length (List.map (fun b => ((UInt8.toNat b) : Int)) (Array.toList (ByteArray.data x0)))) : Int) (0 : Int)).bind ret)
def s2c {β : Type}  (s0 : S0) (s1 : S1) (s2 : S2) (s3 : S3) (s4 : S4) (s5 : S5) (s6 : S6) (x0 : List Int) (x1 : Int) (x2 : Int) (ret : Int → Option β) : Option β := (bif (decide (x2 < x1)) then (bif ((decide ((0 : Int) ≤ x2)) && (decide (x2 < ((List.length x0) : Int)))) then (bif (decide ((elem (Ty.int IntKind.u8) x0 x2) ≥ (97 : Int))) then ((s3 x2 (elem (Ty.int IntKind.u8) x0 x2) (decide ((elem (Ty.int IntKind.u8) x0 x2) ≤ (122 : Int))) x0 x1 x2).bind ret) else ((s3 x2 (elem (Ty.int IntKind.u8) x0 x2) false x0 x1 x2).bind ret)) else none) else (ret ((0 : Int))))
def s3c {β : Type}  (s0 : S0) (s1 : S1) (s2 : S2) (s3 : S3) (s4 : S4) (s5 : S5) (s6 : S6) (x0 : Int) (x1 : Int) (x2 : Bool) (x3 : List Int) (x4 : Int) (x5 : Int) (ret : Int → Option β) : Option β := (bif (decide (x1 ≥ (48 : Int))) then (bif (decide (x1 ≤ (57 : Int))) then ((s4 x0 x2 true x3 x4 x5).bind ret) else ((s4 x0 x2 (x1 == (95 : Int)) x3 x4 x5).bind ret)) else ((s4 x0 x2 (x1 == (95 : Int)) x3 x4 x5).bind ret))
def s4c {β : Type}  (s0 : S0) (s1 : S1) (s2 : S2) (s3 : S3) (s4 : S4) (s5 : S5) (s6 : S6) (x0 : Int) (x1 : Bool) (x2 : Bool) (x3 : List Int) (x4 : Int) (x5 : Int) (ret : Int → Option β) : Option β := (bif (!x1) then (bif (x0 == (0 : Int)) then ((s5 x3 x4 x5 true).bind ret) else ((s5 x3 x4 x5 (!x2)).bind ret)) else ((s5 x3 x4 x5 false).bind ret))
def s5c {β : Type}  (s0 : S0) (s1 : S1) (s2 : S2) (s3 : S3) (s4 : S4) (s5 : S5) (s6 : S6) (x0 : List Int) (x1 : Int) (x2 : Int) (x3 : Bool) (ret : Int → Option β) : Option β := (bif x3 then (ret ((8 : Int))) else ((s6 x0 x1 x2).bind ret))
def s6c {β : Type}  (s0 : S0) (s1 : S1) (s2 : S2) (s3 : S3) (s4 : S4) (s5 : S5) (s6 : S6) (x0 : List Int) (x1 : Int) (x2 : Int) (ret : Int → Option β) : Option β := ((s2 x0 x1 (IntKind.wrap IntKind.i64 (x2 + (1 : Int)))).bind ret)
theorem c_bind {β : Type}  {s0 : S0} {s1 : S1} {s2 : S2} {s3 : S3} {s4 : S4} {s5 : S5} {s6 : S6} {a0 : ByteArray} {ret : Int → Option β} : c  s0 s1 s2 s3 s4 s5 s6 a0 ret = (c  s0 s1 s2 s3 s4 s5 s6 a0 some).bind ret := by
  simp only [c, bif_bind, sum_bind, oa, os, on, ofs]
theorem s0c_bind {β : Type}  {s0 : S0} {s1 : S1} {s2 : S2} {s3 : S3} {s4 : S4} {s5 : S5} {s6 : S6} {x0 : ByteArray} {x1 : Bool} {ret : Int → Option β} : s0c  s0 s1 s2 s3 s4 s5 s6 x0 x1 ret = (s0c  s0 s1 s2 s3 s4 s5 s6 x0 x1 some).bind ret := by
  simp only [s0c, bif_bind, sum_bind, oa, os, on, ofs]
theorem s1c_bind {β : Type}  {s0 : S0} {s1 : S1} {s2 : S2} {s3 : S3} {s4 : S4} {s5 : S5} {s6 : S6} {x0 : ByteArray} {ret : Int → Option β} : s1c  s0 s1 s2 s3 s4 s5 s6 x0 ret = (s1c  s0 s1 s2 s3 s4 s5 s6 x0 some).bind ret := by
  simp only [s1c, bif_bind, sum_bind, oa, os, on, ofs]
theorem s2c_bind {β : Type}  {s0 : S0} {s1 : S1} {s2 : S2} {s3 : S3} {s4 : S4} {s5 : S5} {s6 : S6} {x0 : List Int} {x1 : Int} {x2 : Int} {ret : Int → Option β} : s2c  s0 s1 s2 s3 s4 s5 s6 x0 x1 x2 ret = (s2c  s0 s1 s2 s3 s4 s5 s6 x0 x1 x2 some).bind ret := by
  simp only [s2c, bif_bind, sum_bind, oa, os, on, ofs]
theorem s3c_bind {β : Type}  {s0 : S0} {s1 : S1} {s2 : S2} {s3 : S3} {s4 : S4} {s5 : S5} {s6 : S6} {x0 : Int} {x1 : Int} {x2 : Bool} {x3 : List Int} {x4 : Int} {x5 : Int} {ret : Int → Option β} : s3c  s0 s1 s2 s3 s4 s5 s6 x0 x1 x2 x3 x4 x5 ret = (s3c  s0 s1 s2 s3 s4 s5 s6 x0 x1 x2 x3 x4 x5 some).bind ret := by
  simp only [s3c, bif_bind, sum_bind, oa, os, on, ofs]
theorem s4c_bind {β : Type}  {s0 : S0} {s1 : S1} {s2 : S2} {s3 : S3} {s4 : S4} {s5 : S5} {s6 : S6} {x0 : Int} {x1 : Bool} {x2 : Bool} {x3 : List Int} {x4 : Int} {x5 : Int} {ret : Int → Option β} : s4c  s0 s1 s2 s3 s4 s5 s6 x0 x1 x2 x3 x4 x5 ret = (s4c  s0 s1 s2 s3 s4 s5 s6 x0 x1 x2 x3 x4 x5 some).bind ret := by
  simp only [s4c, bif_bind, sum_bind, oa, os, on, ofs]
theorem s5c_bind {β : Type}  {s0 : S0} {s1 : S1} {s2 : S2} {s3 : S3} {s4 : S4} {s5 : S5} {s6 : S6} {x0 : List Int} {x1 : Int} {x2 : Int} {x3 : Bool} {ret : Int → Option β} : s5c  s0 s1 s2 s3 s4 s5 s6 x0 x1 x2 x3 ret = (s5c  s0 s1 s2 s3 s4 s5 s6 x0 x1 x2 x3 some).bind ret := by
  simp only [s5c, bif_bind, sum_bind, oa, os, on, ofs]
theorem s6c_bind {β : Type}  {s0 : S0} {s1 : S1} {s2 : S2} {s3 : S3} {s4 : S4} {s5 : S5} {s6 : S6} {x0 : List Int} {x1 : Int} {x2 : Int} {ret : Int → Option β} : s6c  s0 s1 s2 s3 s4 s5 s6 x0 x1 x2 ret = (s6c  s0 s1 s2 s3 s4 s5 s6 x0 x1 x2 some).bind ret := by
  simp only [s6c, bif_bind, sum_bind, oa, os, on, ofs]
theorem ev  {s0 : S0} {s1 : S1} {s2 : S2} {s3 : S3} {s4 : S4} {s5 : S5} {s6 : S6} {a0 : ByteArray} : evAt (env  s0 s1 s2 s3 s4 s5 s6) [] [0] [.v (.one (.d .str a0))] [] some = c  s0 s1 s2 s3 s4 s5 s6 a0 (fun r => some ⟨.v (.one (.d (.int .i64) r)), []⟩) := by
  kernel_rfl
theorem s0_ev  {s0 : S0} {s1 : S1} {s2 : S2} {s3 : S3} {s4 : S4} {s5 : S5} {s6 : S6} {x0 : ByteArray} {x1 : Bool} : evAt (env  s0 s1 s2 s3 s4 s5 s6) [1, 0, 1] [0, 13] [.v (.one (.d .str x0)), .v (.one (.d .bool x1))] [] some = s0c  s0 s1 s2 s3 s4 s5 s6 x0 x1 (fun r => some ⟨.v (.one (.d (.int .i64) r)), []⟩) := by
  kernel_rfl
theorem s1_ev  {s0 : S0} {s1 : S1} {s2 : S2} {s3 : S3} {s4 : S4} {s5 : S5} {s6 : S6} {x0 : ByteArray} : evAt (env  s0 s1 s2 s3 s4 s5 s6) [1, 1] [0] [.v (.one (.d .str x0))] [] some = s1c  s0 s1 s2 s3 s4 s5 s6 x0 (fun r => some ⟨.v (.one (.d (.int .i64) r)), []⟩) := by
  kernel_rfl
theorem s2_ev  {s0 : S0} {s1 : S1} {s2 : S2} {s3 : S3} {s4 : S4} {s5 : S5} {s6 : S6} {x0 : List Int} {x1 : Int} {x2 : Int} : evAt (env  s0 s1 s2 s3 s4 s5 s6) [4, 1, 0, 1, 1] [15, 16, 17] [.v (.one (.d (.sl (.int .u8)) x0)), .v (.one (.d (.int .i64) x1)), .v (.one (.d (.int .i64) x2))] [] some = s2c  s0 s1 s2 s3 s4 s5 s6 x0 x1 x2 (fun r => some ⟨.v (.one (.d (.int .i64) r)), []⟩) := by
  kernel_rfl
theorem s3_ev  {s0 : S0} {s1 : S1} {s2 : S2} {s3 : S3} {s4 : S4} {s5 : S5} {s6 : S6} {x0 : Int} {x1 : Int} {x2 : Bool} {x3 : List Int} {x4 : Int} {x5 : Int} : evAt (env  s0 s1 s2 s3 s4 s5 s6) [1, 1, 4, 0, 1, 1, 5, 4, 1, 0, 1, 1] [3, 4, 5, 15, 16, 17] [.v (.one (.d (.int .i64) x0)), .v (.one (.d (.int .u8) x1)), .v (.one (.d .bool x2)), .v (.one (.d (.sl (.int .u8)) x3)), .v (.one (.d (.int .i64) x4)), .v (.one (.d (.int .i64) x5))] [] some = s3c  s0 s1 s2 s3 s4 s5 s6 x0 x1 x2 x3 x4 x5 (fun r => some ⟨.v (.one (.d (.int .i64) r)), []⟩) := by
  kernel_rfl
theorem s4_ev  {s0 : S0} {s1 : S1} {s2 : S2} {s3 : S3} {s4 : S4} {s5 : S5} {s6 : S6} {x0 : Int} {x1 : Bool} {x2 : Bool} {x3 : List Int} {x4 : Int} {x5 : Int} : evAt (env  s0 s1 s2 s3 s4 s5 s6) [1, 1, 1, 4, 0, 1, 1, 5, 4, 1, 0, 1, 1] [3, 5, 6, 15, 16, 17] [.v (.one (.d (.int .i64) x0)), .v (.one (.d .bool x1)), .v (.one (.d .bool x2)), .v (.one (.d (.sl (.int .u8)) x3)), .v (.one (.d (.int .i64) x4)), .v (.one (.d (.int .i64) x5))] [] some = s4c  s0 s1 s2 s3 s4 s5 s6 x0 x1 x2 x3 x4 x5 (fun r => some ⟨.v (.one (.d (.int .i64) r)), []⟩) := by
  kernel_rfl
theorem s5_ev  {s0 : S0} {s1 : S1} {s2 : S2} {s3 : S3} {s4 : S4} {s5 : S5} {s6 : S6} {x0 : List Int} {x1 : Int} {x2 : Int} {x3 : Bool} : evAt (env  s0 s1 s2 s3 s4 s5 s6) [1, 1, 1, 1, 4, 0, 1, 1, 5, 4, 1, 0, 1, 1] [15, 16, 17, 47] [.v (.one (.d (.sl (.int .u8)) x0)), .v (.one (.d (.int .i64) x1)), .v (.one (.d (.int .i64) x2)), .v (.one (.d .bool x3))] [] some = s5c  s0 s1 s2 s3 s4 s5 s6 x0 x1 x2 x3 (fun r => some ⟨.v (.one (.d (.int .i64) r)), []⟩) := by
  kernel_rfl
theorem s6_ev  {s0 : S0} {s1 : S1} {s2 : S2} {s3 : S3} {s4 : S4} {s5 : S5} {s6 : S6} {x0 : List Int} {x1 : Int} {x2 : Int} : evAt (env  s0 s1 s2 s3 s4 s5 s6) [1, 1, 1, 5, 4, 1, 0, 1, 1] [15, 16, 17] [.v (.one (.d (.sl (.int .u8)) x0)), .v (.one (.d (.int .i64) x1)), .v (.one (.d (.int .i64) x2))] [] some = s6c  s0 s1 s2 s3 s4 s5 s6 x0 x1 x2 (fun r => some ⟨.v (.one (.d (.int .i64) r)), []⟩) := by
  kernel_rfl
mutual
def s0 : Nat → ByteArray → Bool → Option Int
  | 0, _, _ => none
  | k + 1, x0, x1 => s0c  (s0 k) (s1 k) (s2 k) (s3 k) (s4 k) (s5 k) (s6 k) x0 x1 some
def s1 : Nat → ByteArray → Option Int
  | 0, _ => none
  | k + 1, x0 => s1c  (s0 k) (s1 k) (s2 k) (s3 k) (s4 k) (s5 k) (s6 k) x0 some
def s2 : Nat → (List Int) → Int → Int → Option Int
  | 0, _, _, _ => none
  | k + 1, x0, x1, x2 => s2c  (s0 k) (s1 k) (s2 k) (s3 k) (s4 k) (s5 k) (s6 k) x0 x1 x2 some
def s3 : Nat → Int → Int → Bool → (List Int) → Int → Int → Option Int
  | 0, _, _, _, _, _, _ => none
  | k + 1, x0, x1, x2, x3, x4, x5 => s3c  (s0 k) (s1 k) (s2 k) (s3 k) (s4 k) (s5 k) (s6 k) x0 x1 x2 x3 x4 x5 some
def s4 : Nat → Int → Bool → Bool → (List Int) → Int → Int → Option Int
  | 0, _, _, _, _, _, _ => none
  | k + 1, x0, x1, x2, x3, x4, x5 => s4c  (s0 k) (s1 k) (s2 k) (s3 k) (s4 k) (s5 k) (s6 k) x0 x1 x2 x3 x4 x5 some
def s5 : Nat → (List Int) → Int → Int → Bool → Option Int
  | 0, _, _, _, _ => none
  | k + 1, x0, x1, x2, x3 => s5c  (s0 k) (s1 k) (s2 k) (s3 k) (s4 k) (s5 k) (s6 k) x0 x1 x2 x3 some
def s6 : Nat → (List Int) → Int → Int → Option Int
  | 0, _, _, _ => none
  | k + 1, x0, x1, x2 => s6c  (s0 k) (s1 k) (s2 k) (s3 k) (s4 k) (s5 k) (s6 k) x0 x1 x2 some
end
def f (k : Nat) (a0 : ByteArray) : Option Int := c  (s0 k) (s1 k) (s2 k) (s3 k) (s4 k) (s5 k) (s6 k) a0 some
theorem is  {s0 : S0} {s1 : S1} {s2 : S2} {s3 : S3} {s4 : S4} {s5 : S5} {s6 : S6} : FnIs (env  s0 s1 s2 s3 s4 s5 s6) 51 f51 := ⟨func51, rfl, rfl, rfl, by decide⟩
theorem envok  {s0 : S0} {s1 : S1} {s2 : S2} {s3 : S3} {s4 : S4} {s5 : S5} {s6 : S6}  : EnvOK (env  s0 s1 s2 s3 s4 s5 s6).toEnv := by
  intro f c h
  simp only [env] at h
  simp at h
noncomputable abbrev E (k : Nat) : FEnv := env  (s0 k) (s1 k) (s2 k) (s3 k) (s4 k) (s5 k) (s6 k)
theorem hE (k : Nat) : EnvOK (E k).toEnv := envok 
theorem segs_ok : ∀ k, ∀ s ∈ (E k).segs, SegOK (E k) f51 s
  | 0 => by
    intro s hs
    simp only [E, env, List.mem_cons, List.not_mem_nil, or_false] at hs
    rcases hs with rfl | rfl | rfl | rfl | rfl | rfl | rfl
    · intro tvs blks res h; exfalso; simp only [sg0] at h; split at h <;> simp [s0] at h
    · intro tvs blks res h; exfalso; simp only [sg1] at h; split at h <;> simp [s1] at h
    · intro tvs blks res h; exfalso; simp only [sg2] at h; split at h <;> simp [s2] at h
    · intro tvs blks res h; exfalso; simp only [sg3] at h; split at h <;> simp [s3] at h
    · intro tvs blks res h; exfalso; simp only [sg4] at h; split at h <;> simp [s4] at h
    · intro tvs blks res h; exfalso; simp only [sg5] at h; split at h <;> simp [s5] at h
    · intro tvs blks res h; exfalso; simp only [sg6] at h; split at h <;> simp [s6] at h
  | k + 1 => by
    intro s hs
    simp only [E, env, List.mem_cons, List.not_mem_nil, or_false] at hs
    rcases hs with rfl | rfl | rfl | rfl | rfl | rfl | rfl
    · refine seg_of_ev (E := E k) (hE k) ⟨is.rvs⟩ (segs_ok k) ?_
      intro tvs blks res h
      simp only [sg0] at h
      split at h
      · exact (s0_ev.trans s0c_bind).trans h
      · simp at h
    · refine seg_of_ev (E := E k) (hE k) ⟨is.rvs⟩ (segs_ok k) ?_
      intro tvs blks res h
      simp only [sg1] at h
      split at h
      · exact (s1_ev.trans s1c_bind).trans h
      · simp at h
    · refine seg_of_ev (E := E k) (hE k) ⟨is.rvs⟩ (segs_ok k) ?_
      intro tvs blks res h
      simp only [sg2] at h
      split at h
      · exact (s2_ev.trans s2c_bind).trans h
      · simp at h
    · refine seg_of_ev (E := E k) (hE k) ⟨is.rvs⟩ (segs_ok k) ?_
      intro tvs blks res h
      simp only [sg3] at h
      split at h
      · exact (s3_ev.trans s3c_bind).trans h
      · simp at h
    · refine seg_of_ev (E := E k) (hE k) ⟨is.rvs⟩ (segs_ok k) ?_
      intro tvs blks res h
      simp only [sg4] at h
      split at h
      · exact (s4_ev.trans s4c_bind).trans h
      · simp at h
    · refine seg_of_ev (E := E k) (hE k) ⟨is.rvs⟩ (segs_ok k) ?_
      intro tvs blks res h
      simp only [sg5] at h
      split at h
      · exact (s5_ev.trans s5c_bind).trans h
      · simp at h
    · refine seg_of_ev (E := E k) (hE k) ⟨is.rvs⟩ (segs_ok k) ?_
      intro tvs blks res h
      simp only [sg6] at h
      split at h
      · exact (s6_ev.trans s6c_bind).trans h
      · simp at h
theorem ok (k : Nat) : CtOK prog 51 (ct (f k)) := by
  refine ct_of_ev (E := E k) is (hE k) (segs_ok k) rfl ?_
  intro tvs blks res h
  simp only [ct] at h
  split at h
  · exact (ev.trans c_bind).trans h
  · simp at h
end names_Check
namespace values_only
abbrev G : Type := Int → Int → Int → ByteArray → Option (Int × Int × Int × ByteArray)
def ct (g : G) : Ct where
  nin := 0
  mv := []
  F := fun tvs blks {β} K => match tvs, blks with
    | [.v (.agg [(.d (.int .i64) a0), (.d (.int .i64) a1), (.d (.int .u64) a2), (.d .str a3)])], [] => (g a0 a1 a2 a3).bind fun r => K ⟨.v (.agg [(.d (.int .i64) r.1), (.d (.int .i64) r.2.1), (.d (.int .u64) r.2.2.1), (.d .str r.2.2.2)]), []⟩
    | _, _ => none
  legit := fun _ _ K _ h => by split at h; exact (legit1 K h :); simp at h
abbrev S0 : Type := Int → Bool → Int → Int → Int → ByteArray → Int → Int → Int → ByteArray → Int → Int → Int → ByteArray → Option (Int × Int × Int × ByteArray)
def sg0 (g : S0) : Seg where
  path := [1, 4, 1, 0, 1, 1]
  prep := []
  keep := [1, 2, 3, 8, 9]
  F := fun tvs blks {β} K => match tvs, blks with
    | [.v (.one (.ptr 0 0)), .v (.one (.ptr 1 0)), .v (.one (.ptr 2 0)), .v (.one (.d (.int .i64) x0)), .v (.one (.d .bool x1))], [some (.box [(.d (.int .i64) x2), (.d (.int .i64) x3), (.d (.int .u64) x4), (.d .str x5)]), some (.box [(.d (.int .i64) x6), (.d (.int .i64) x7), (.d (.int .u64) x8), (.d .str x9)]), some (.box [(.d (.int .i64) x10), (.d (.int .i64) x11), (.d (.int .u64) x12), (.d .str x13)])] => (g x0 x1 x2 x3 x4 x5 x6 x7 x8 x9 x10 x11 x12 x13).bind fun r => K ⟨.v (.agg [(.d (.int .i64) r.1), (.d (.int .i64) r.2.1), (.d (.int .u64) r.2.2.1), (.d .str r.2.2.2)]), []⟩
    | _, _ => none
  legit := fun _ _ K _ h => by split at h; exact (legit1 K h :); simp at h
noncomputable def env  (s0 : S0) : FEnv := { P := prog, ct := fun m => none, N := 27, body := f57.body.getD .skip, rvs := [.cell 2 49], rts := [49], nin := 0, rmv := [], segs := [sg0 s0] }
def c {β : Type}  (s0 : S0) (a0 : Int) (a1 : Int) (a2 : Int) (a3 : ByteArray) (ret : (Int × Int × Int × ByteArray) → Option β) : Option β := (bif (a0 == (1 : Int)) then ((s0 a0 (a0 == (1 : Int)) a0 a1 a2 a3 (0 : Int) (0 : Int) (0 : Int) (ByteArray.mk (List.toArray [])) a0 (0 : Int) (0 : Int) (ByteArray.mk (List.toArray []))).bind ret) else ((s0 a0 (a0 == (2 : Int)) a0 a1 a2 a3 (0 : Int) (0 : Int) (0 : Int) (ByteArray.mk (List.toArray [])) a0 (0 : Int) (0 : Int) (ByteArray.mk (List.toArray []))).bind ret))
def s0c {β : Type}  (s0 : S0) (x0 : Int) (x1 : Bool) (x2 : Int) (x3 : Int) (x4 : Int) (x5 : ByteArray) (x6 : Int) (x7 : Int) (x8 : Int) (x9 : ByteArray) (x10 : Int) (x11 : Int) (x12 : Int) (x13 : ByteArray) (ret : (Int × Int × Int × ByteArray) → Option β) : Option β := (bif x1 then (ret (x10, x3, x12, x13)) else (bif (x0 == (3 : Int)) then (ret (x10, x11, x4, x13)) else (bif (x0 == (4 : Int)) then (bif (x0 == (4 : Int)) then (ret (x10, x11, x12, x5)) else (ret (x10, x11, x12, x13))) else (bif (x0 == (5 : Int)) then (ret (x10, x11, x12, x5)) else (ret (x10, x11, x12, x13))))))
theorem c_bind {β : Type}  {s0 : S0} {a0 : Int} {a1 : Int} {a2 : Int} {a3 : ByteArray} {ret : (Int × Int × Int × ByteArray) → Option β} : c  s0 a0 a1 a2 a3 ret = (c  s0 a0 a1 a2 a3 some).bind ret := by
  simp only [c, bif_bind, sum_bind, oa, os, on, ofs]
theorem s0c_bind {β : Type}  {s0 : S0} {x0 : Int} {x1 : Bool} {x2 : Int} {x3 : Int} {x4 : Int} {x5 : ByteArray} {x6 : Int} {x7 : Int} {x8 : Int} {x9 : ByteArray} {x10 : Int} {x11 : Int} {x12 : Int} {x13 : ByteArray} {ret : (Int × Int × Int × ByteArray) → Option β} : s0c  s0 x0 x1 x2 x3 x4 x5 x6 x7 x8 x9 x10 x11 x12 x13 ret = (s0c  s0 x0 x1 x2 x3 x4 x5 x6 x7 x8 x9 x10 x11 x12 x13 some).bind ret := by
  simp only [s0c, bif_bind, sum_bind, oa, os, on, ofs]
theorem ev  {s0 : S0} {a0 : Int} {a1 : Int} {a2 : Int} {a3 : ByteArray} : evAt (env  s0) [] [0] [.v (.agg [(.d (.int .i64) a0), (.d (.int .i64) a1), (.d (.int .u64) a2), (.d .str a3)])] [] some = c  s0 a0 a1 a2 a3 (fun r => some ⟨.v (.agg [(.d (.int .i64) r.1), (.d (.int .i64) r.2.1), (.d (.int .u64) r.2.2.1), (.d .str r.2.2.2)]), []⟩) := by
  kernel_rfl
theorem s0_ev  {s0 : S0} {x0 : Int} {x1 : Bool} {x2 : Int} {x3 : Int} {x4 : Int} {x5 : ByteArray} {x6 : Int} {x7 : Int} {x8 : Int} {x9 : ByteArray} {x10 : Int} {x11 : Int} {x12 : Int} {x13 : ByteArray} : evAt (env  s0) [1, 4, 1, 0, 1, 1] [1, 2, 3, 8, 9] [.v (.one (.ptr 0 0)), .v (.one (.ptr 1 0)), .v (.one (.ptr 2 0)), .v (.one (.d (.int .i64) x0)), .v (.one (.d .bool x1))] [some (.box [(.d (.int .i64) x2), (.d (.int .i64) x3), (.d (.int .u64) x4), (.d .str x5)]), some (.box [(.d (.int .i64) x6), (.d (.int .i64) x7), (.d (.int .u64) x8), (.d .str x9)]), some (.box [(.d (.int .i64) x10), (.d (.int .i64) x11), (.d (.int .u64) x12), (.d .str x13)])] some = s0c  s0 x0 x1 x2 x3 x4 x5 x6 x7 x8 x9 x10 x11 x12 x13 (fun r => some ⟨.v (.agg [(.d (.int .i64) r.1), (.d (.int .i64) r.2.1), (.d (.int .u64) r.2.2.1), (.d .str r.2.2.2)]), []⟩) := by
  kernel_rfl
def s0 : Nat → Int → Bool → Int → Int → Int → ByteArray → Int → Int → Int → ByteArray → Int → Int → Int → ByteArray → Option (Int × Int × Int × ByteArray)
  | 0, _, _, _, _, _, _, _, _, _, _, _, _, _, _ => none
  | k + 1, x0, x1, x2, x3, x4, x5, x6, x7, x8, x9, x10, x11, x12, x13 => s0c  (s0 k) x0 x1 x2 x3 x4 x5 x6 x7 x8 x9 x10 x11 x12 x13 some
def f (k : Nat) (a0 : Int) (a1 : Int) (a2 : Int) (a3 : ByteArray) : Option (Int × Int × Int × ByteArray) := c  (s0 k) a0 a1 a2 a3 some
theorem is  {s0 : S0} : FnIs (env  s0) 57 f57 := ⟨func57, rfl, rfl, rfl, by decide⟩
theorem envok  {s0 : S0}  : EnvOK (env  s0).toEnv := by
  intro f c h
  simp only [env] at h
  simp at h
noncomputable abbrev E (k : Nat) : FEnv := env  (s0 k)
theorem hE (k : Nat) : EnvOK (E k).toEnv := envok 
theorem segs_ok : ∀ k, ∀ s ∈ (E k).segs, SegOK (E k) f57 s
  | 0 => by
    intro s hs
    simp only [E, env, List.mem_cons, List.not_mem_nil, or_false] at hs
    rcases hs with rfl
    · intro tvs blks res h; exfalso; simp only [sg0] at h; split at h <;> simp [s0] at h
  | k + 1 => by
    intro s hs
    simp only [E, env, List.mem_cons, List.not_mem_nil, or_false] at hs
    rcases hs with rfl
    · refine seg_of_ev (E := E k) (hE k) ⟨is.rvs⟩ (segs_ok k) ?_
      intro tvs blks res h
      simp only [sg0] at h
      split at h
      · exact (s0_ev.trans s0c_bind).trans h
      · simp at h
theorem ok (k : Nat) : CtOK prog 57 (ct (f k)) := by
  refine ct_of_ev (E := E k) is (hE k) (segs_ok k) rfl ?_
  intro tvs blks res h
  simp only [ct] at h
  split at h
  · exact (ev.trans c_bind).trans h
  · simp at h
end values_only
/-! ### math_Float64frombits: function 79 (no body) -/
def math_Float64frombits.ct (g : Int → Option Nat) : Ct where
  nin := 0
  mv := []
  F := fun tvs blks {β} K => match tvs, blks with
    | [.v (.one (.d (.int .u64) a0))], [] => (g a0).bind fun r => K ⟨.v (.one (.d .flt r)), []⟩
    | _, _ => none
  legit := fun _ _ K _ h => by split at h; exact (legit1 K h :); simp at h
def math_Float64frombits.f (k : Nat) (a0 : Int) : Option Nat := some (a0.toNat)
theorem math_Float64frombits.ok (k : Nat) : CtOK Go.Proofs.Tryz.prog 79 (math_Float64frombits.ct (math_Float64frombits.f k)) := by
  refine ct_extern ?_
  intro tvs blks res h
  simp only [math_Float64frombits.ct] at h
  split at h
  · simp only [math_Float64frombits.f, Option.bind_some, Option.some.injEq] at h; subst h
    rename_i a0
    refine ⟨.float .f64 a0.toNat, ?_, rfl, rfl⟩
    intro w S ρ H vals hm hv
    obtain ⟨v0, m0, rfl, h0, hv⟩ := All2.cons_left hv
    cases All2.nil_left hv
    simp only [RepTV, RepVV, RepAV, Rd, List.cons.injEq, and_true] at h0
    subst h0
    exact ⟨run_callFunc_extern (e := Extern.MathFloatBits.float64frombits) Go.Proofs.Tryz.func79 (by kernel_rfl) (by kernel_rfl) (by kernel_rfl) (by kernel_rfl) _ w, rfl⟩
  · simp at h

namespace reals_Canon
abbrev G : Type := Int → Option Int
def ct (g : G) : Ct where
  nin := 0
  mv := []
  F := fun tvs blks {β} K => match tvs, blks with
    | [.v (.one (.d (.int .u64) a0))], [] => (g a0).bind fun r => K ⟨.v (.one (.d (.int .u64) r)), []⟩
    | _, _ => none
  legit := fun _ _ K _ h => by split at h; exact (legit1 K h :); simp at h
noncomputable def env (g79 : Int → Option Nat)  : FEnv := { P := prog, ct := fun m => if m = 79 then some (math_Float64frombits.ct g79) else none, N := 10, body := f58.body.getD .skip, rvs := [.tmp 2], rts := [47], nin := 0, rmv := [], segs := [] }
def c {β : Type} (g79 : Int → Option Nat)  (a0 : Int) (ret : Int → Option β) : Option β := ((g79 a0).bind fun r0 => (bif ((Ieee.Format.order (FloatKind.format FloatKind.f64) r0 r0) != (Option.some Ordering.eq)) then (ret ((9221120237041090560 : Int))) else (ret (a0))))
theorem c_bind {β : Type} {g79 : Int → Option Nat}  {a0 : Int} {ret : Int → Option β} : c g79  a0 ret = (c g79  a0 some).bind ret := by
  simp only [c, bif_bind, sum_bind, oa, os, on, ofs]
theorem ev {g79 : Int → Option Nat}  {a0 : Int} : evAt (env g79 ) [] [0] [.v (.one (.d (.int .u64) a0))] [] some = c g79  a0 (fun r => some ⟨.v (.one (.d (.int .u64) r)), []⟩) := by
  kernel_rfl
def f (k : Nat) (a0 : Int) : Option Int := c (math_Float64frombits.f k)  a0 some
theorem is {g79 : Int → Option Nat}  : FnIs (env g79 ) 58 f58 := ⟨func58, rfl, rfl, rfl, by decide⟩
theorem envok {g79 : Int → Option Nat}  (h79 : CtOK prog 79 (math_Float64frombits.ct g79)) : EnvOK (env g79 ).toEnv := by
  intro f c h
  simp only [env] at h
  split at h
  · rename_i e; subst e; cases h; exact h79
  simp at h
noncomputable abbrev E (k : Nat) : FEnv := env (math_Float64frombits.f k) 
theorem hE (k : Nat) : EnvOK (E k).toEnv := envok (math_Float64frombits.ok k)
theorem ok (k : Nat) : CtOK prog 58 (ct (f k)) := by
  refine ct_of_ev (E := E k) is (hE k) (fun s hs => by simp [E, env] at hs) rfl ?_
  intro tvs blks res h
  simp only [ct] at h
  split at h
  · exact (ev.trans c_bind).trans h
  · simp at h
end reals_Canon
namespace utf_first
abbrev G : Type := Int → Option (Int × Int × Int × Int)
def ct (g : G) : Ct where
  nin := 0
  mv := []
  F := fun tvs blks {β} K => match tvs, blks with
    | [.v (.one (.d (.int .u8) a0))], [] => (g a0).bind fun r => K ⟨.tup [(.one (.d (.int .i64) r.1)), (.one (.d (.int .i64) r.2.1)), (.one (.d (.int .u8) r.2.2.1)), (.one (.d (.int .u8) r.2.2.2))], []⟩
    | _, _ => none
  legit := fun _ _ K _ h => by split at h; exact (legit1 K h :); simp at h
abbrev S0 : Type := Int → Bool → Option (Int × Int × Int × Int)
def sg0 (g : S0) : Seg where
  path := [1, 3, 1, 4, 0, 1]
  prep := []
  keep := [0, 11]
  F := fun tvs blks {β} K => match tvs, blks with
    | [.v (.one (.d (.int .u8) x0)), .v (.one (.d .bool x1))], [] => (g x0 x1).bind fun r => K ⟨.tup [(.one (.d (.int .i64) r.1)), (.one (.d (.int .i64) r.2.1)), (.one (.d (.int .u8) r.2.2.1)), (.one (.d (.int .u8) r.2.2.2))], []⟩
    | _, _ => none
  legit := fun _ _ K _ h => by split at h; exact (legit1 K h :); simp at h
noncomputable def env  (s0 : S0) : FEnv := { P := prog, ct := fun m => none, N := 48, body := f92.body.getD .skip, rvs := [.tmp 2, .tmp 3, .tmp 4, .tmp 5], rts := [3, 3, 5, 5], nin := 0, rmv := [], segs := [sg0 s0] }
def c {β : Type}  (s0 : S0) (a0 : Int) (ret : (Int × Int × Int × Int) → Option β) : Option β := (bif (decide (a0 < (128 : Int))) then (ret ((1 : Int), (IntKind.wrap IntKind.i64 a0), (0 : Int), (0 : Int))) else (bif (decide (a0 < (194 : Int))) then ((s0 a0 true).bind ret) else ((s0 a0 (decide (a0 > (244 : Int)))).bind ret)))
def s0c {β : Type}  (s0 : S0) (x0 : Int) (x1 : Bool) (ret : (Int × Int × Int × Int) → Option β) : Option β := (bif x1 then (ret ((0 : Int), (0 : Int), (0 : Int), (0 : Int))) else (bif (decide (x0 < (224 : Int))) then (ret ((2 : Int), (IntKind.wrap IntKind.i64 (IntKind.wrap IntKind.u8 ((BitVec.toNat ((BitVec.ofInt (8 : Nat) x0) &&& (BitVec.ofInt (8 : Nat) (31 : Int)))) : Int))), (128 : Int), (191 : Int))) else (bif (x0 == (224 : Int)) then (ret ((3 : Int), (0 : Int), (160 : Int), (191 : Int))) else (bif (x0 == (237 : Int)) then (ret ((3 : Int), (IntKind.wrap IntKind.i64 (IntKind.wrap IntKind.u8 ((BitVec.toNat ((BitVec.ofInt (8 : Nat) x0) &&& (BitVec.ofInt (8 : Nat) (15 : Int)))) : Int))), (128 : Int), (159 : Int))) else (bif (decide (x0 < (240 : Int))) then (ret ((3 : Int), (IntKind.wrap IntKind.i64 (IntKind.wrap IntKind.u8 ((BitVec.toNat ((BitVec.ofInt (8 : Nat) x0) &&& (BitVec.ofInt (8 : Nat) (15 : Int)))) : Int))), (128 : Int), (191 : Int))) else (bif (x0 == (240 : Int)) then (ret ((4 : Int), (0 : Int), (144 : Int), (191 : Int))) else (bif (x0 == (244 : Int)) then (ret ((4 : Int), (4 : Int), (128 : Int), (143 : Int))) else (ret ((4 : Int), (IntKind.wrap IntKind.i64 (IntKind.wrap IntKind.u8 ((BitVec.toNat ((BitVec.ofInt (8 : Nat) x0) &&& (BitVec.ofInt (8 : Nat) (7 : Int)))) : Int))), (128 : Int), (191 : Int))))))))))
theorem c_bind {β : Type}  {s0 : S0} {a0 : Int} {ret : (Int × Int × Int × Int) → Option β} : c  s0 a0 ret = (c  s0 a0 some).bind ret := by
  simp only [c, bif_bind, sum_bind, oa, os, on, ofs]
theorem s0c_bind {β : Type}  {s0 : S0} {x0 : Int} {x1 : Bool} {ret : (Int × Int × Int × Int) → Option β} : s0c  s0 x0 x1 ret = (s0c  s0 x0 x1 some).bind ret := by
  simp only [s0c, bif_bind, sum_bind, oa, os, on, ofs]
theorem ev  {s0 : S0} {a0 : Int} : evAt (env  s0) [] [0] [.v (.one (.d (.int .u8) a0))] [] some = c  s0 a0 (fun r => some ⟨.tup [(.one (.d (.int .i64) r.1)), (.one (.d (.int .i64) r.2.1)), (.one (.d (.int .u8) r.2.2.1)), (.one (.d (.int .u8) r.2.2.2))], []⟩) := by
  kernel_rfl
theorem s0_ev  {s0 : S0} {x0 : Int} {x1 : Bool} : evAt (env  s0) [1, 3, 1, 4, 0, 1] [0, 11] [.v (.one (.d (.int .u8) x0)), .v (.one (.d .bool x1))] [] some = s0c  s0 x0 x1 (fun r => some ⟨.tup [(.one (.d (.int .i64) r.1)), (.one (.d (.int .i64) r.2.1)), (.one (.d (.int .u8) r.2.2.1)), (.one (.d (.int .u8) r.2.2.2))], []⟩) := by
  kernel_rfl
def s0 : Nat → Int → Bool → Option (Int × Int × Int × Int)
  | 0, _, _ => none
  | k + 1, x0, x1 => s0c  (s0 k) x0 x1 some
def f (k : Nat) (a0 : Int) : Option (Int × Int × Int × Int) := c  (s0 k) a0 some
theorem is  {s0 : S0} : FnIs (env  s0) 92 f92 := ⟨func92, rfl, rfl, rfl, by decide⟩
theorem envok  {s0 : S0}  : EnvOK (env  s0).toEnv := by
  intro f c h
  simp only [env] at h
  simp at h
noncomputable abbrev E (k : Nat) : FEnv := env  (s0 k)
theorem hE (k : Nat) : EnvOK (E k).toEnv := envok 
theorem segs_ok : ∀ k, ∀ s ∈ (E k).segs, SegOK (E k) f92 s
  | 0 => by
    intro s hs
    simp only [E, env, List.mem_cons, List.not_mem_nil, or_false] at hs
    rcases hs with rfl
    · intro tvs blks res h; exfalso; simp only [sg0] at h; split at h <;> simp [s0] at h
  | k + 1 => by
    intro s hs
    simp only [E, env, List.mem_cons, List.not_mem_nil, or_false] at hs
    rcases hs with rfl
    · refine seg_of_ev (E := E k) (hE k) ⟨is.rvs⟩ (segs_ok k) ?_
      intro tvs blks res h
      simp only [sg0] at h
      split at h
      · exact (s0_ev.trans s0c_bind).trans h
      · simp at h
theorem ok (k : Nat) : CtOK prog 92 (ct (f k)) := by
  refine ct_of_ev (E := E k) is (hE k) (segs_ok k) rfl ?_
  intro tvs blks res h
  simp only [ct] at h
  split at h
  · exact (ev.trans c_bind).trans h
  · simp at h
end utf_first
end Go.Proofs.YtdbbkmmillnaiaaGreatDoor.Aev
