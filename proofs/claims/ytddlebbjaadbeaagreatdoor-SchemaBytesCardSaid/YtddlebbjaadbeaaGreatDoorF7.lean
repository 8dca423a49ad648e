/- By a program of this session (AEV): functions of the program as plain functions, and that the machine does what they say. -/
import Derived.Test.YtddlebbjaadbeaaGreatDoorTys
import Derived.Test.YtddlebbjaadbeaaGreatDoorProg
import Derived.Laws.Externs
import Derived.Lib.Bytealg
namespace Go.Proofs.YtddlebbjaadbeaaGreatDoor.Aev
set_option linter.unusedVariables false
set_option linter.unusedSimpArgs false
set_option maxRecDepth 100000
set_option maxHeartbeats 4000000
open Go Go.Proofs.Tryz
namespace pack_ReadUint
abbrev G : Type := ByteArray → Option (Int × ByteArray × Int)
def ct (g : G) : Ct where
  nin := 0
  mv := []
  F := fun tvs blks {β} K => match tvs, blks with
    | [.v (.one (.d .str a0))], [] => (g a0).bind fun r => K ⟨.tup [(.one (.d (.int .u64) r.1)), (.one (.d .str r.2.1)), (.one (.d (.int .i64) r.2.2))], []⟩
    | _, _ => none
  legit := fun _ _ K _ h => by split at h; exact (legit1 K h :); simp at h
abbrev S0 : Type := ByteArray → Int → Int → Bool → Option (Int × ByteArray × Int)
abbrev S1 : Type := ByteArray → Int → Int → Option (Int × ByteArray × Int)
abbrev S2 : Type := ByteArray → Int → Int → Option (Int × ByteArray × Int)
abbrev S3 : Type := ByteArray → Int → Int → Bool → Option (Int × ByteArray × Int)
abbrev S4 : Type := ByteArray → Int → Int → Option (Int × ByteArray × Int)
def sg0 (g : S0) : Seg where
  path := [1, 3, 1, 4, 0, 1, 1, 1, 6, 1]
  prep := []
  keep := [0, 5, 6, 13]
  F := fun tvs blks {β} K => match tvs, blks with
    | [.v (.one (.d .str x0)), .v (.one (.d (.int .u64) x1)), .v (.one (.d (.int .i64) x2)), .v (.one (.d .bool x3))], [] => (g x0 x1 x2 x3).bind fun r => K ⟨.tup [(.one (.d (.int .u64) r.1)), (.one (.d .str r.2.1)), (.one (.d (.int .i64) r.2.2))], []⟩
    | _, _ => none
  legit := fun _ _ K _ h => by split at h; exact (legit1 K h :); simp at h
def sg1 (g : S1) : Seg where
  path := [1, 1, 1, 1, 6, 1]
  prep := []
  keep := [0, 5, 6]
  F := fun tvs blks {β} K => match tvs, blks with
    | [.v (.one (.d .str x0)), .v (.one (.d (.int .u64) x1)), .v (.one (.d (.int .i64) x2))], [] => (g x0 x1 x2).bind fun r => K ⟨.tup [(.one (.d (.int .u64) r.1)), (.one (.d .str r.2.1)), (.one (.d (.int .i64) r.2.2))], []⟩
    | _, _ => none
  legit := fun _ _ K _ h => by split at h; exact (legit1 K h :); simp at h
def sg2 (g : S2) : Seg where
  path := [100, 1]
  prep := []
  keep := [0, 5, 6]
  F := fun tvs blks {β} K => match tvs, blks with
    | [.v (.one (.d .str x0)), .v (.one (.d (.int .u64) x1)), .v (.one (.d (.int .i64) x2))], [] => (g x0 x1 x2).bind fun r => K ⟨.tup [(.one (.d (.int .u64) r.1)), (.one (.d .str r.2.1)), (.one (.d (.int .i64) r.2.2))], []⟩
    | _, _ => none
  legit := fun _ _ K _ h => by split at h; exact (legit1 K h :); simp at h
def sg3 (g : S3) : Seg where
  path := [1, 3, 1, 4, 0, 1, 100, 1]
  prep := []
  keep := [0, 5, 6, 13]
  F := fun tvs blks {β} K => match tvs, blks with
    | [.v (.one (.d .str x0)), .v (.one (.d (.int .u64) x1)), .v (.one (.d (.int .i64) x2)), .v (.one (.d .bool x3))], [] => (g x0 x1 x2 x3).bind fun r => K ⟨.tup [(.one (.d (.int .u64) r.1)), (.one (.d .str r.2.1)), (.one (.d (.int .i64) r.2.2))], []⟩
    | _, _ => none
  legit := fun _ _ K _ h => by split at h; exact (legit1 K h :); simp at h
def sg4 (g : S4) : Seg where
  path := [1, 1, 100, 1]
  prep := []
  keep := [0, 5, 6]
  F := fun tvs blks {β} K => match tvs, blks with
    | [.v (.one (.d .str x0)), .v (.one (.d (.int .u64) x1)), .v (.one (.d (.int .i64) x2))], [] => (g x0 x1 x2).bind fun r => K ⟨.tup [(.one (.d (.int .u64) r.1)), (.one (.d .str r.2.1)), (.one (.d (.int .i64) r.2.2))], []⟩
    | _, _ => none
  legit := fun _ _ K _ h => by split at h; exact (legit1 K h :); simp at h
noncomputable def env  (s0 : S0) (s1 : S1) (s2 : S2) (s3 : S3) (s4 : S4) : FEnv := { P := prog, ct := fun m => none, N := 47, body := f63.body.getD .skip, rvs := [.tmp 2, .tmp 3, .tmp 4], rts := [47, 9, 29], nin := 0, rmv := [], segs := [sg0 s0, sg1 s1, sg2 s2, sg3 s3, sg4 s4] }
def c {β : Type}  (s0 : S0) (s1 : S1) (s2 : S2) (s3 : S3) (s4 : S4) (a0 : ByteArray) (ret : (Int × ByteArray × Int) → Option β) : Option β := (bif ((0 : Int) == ((ByteArray.size a0) : Int)) then (ret ((0 : Int), (ByteArray.mk (List.toArray [])), (3 : Int))) else ((s0 a0 (0 : Int) (0 : Int) false).bind ret))
def s0c {β : Type}  (s0 : S0) (s1 : S1) (s2 : S2) (s3 : S3) (s4 : S4) (x0 : ByteArray) (x1 : Int) (x2 : Int) (x3 : Bool) (ret : (Int × ByteArray × Int) → Option β) : Option β := (bif x3 then (ret ((0 : Int), (ByteArray.mk (List.toArray [])), (4 : Int))) else ((s1 x0 x1 x2).bind ret))
def s1c {β : Type}  (s0 : S0) (s1 : S1) (s2 : S2) (s3 : S3) (s4 : S4) (x0 : ByteArray) (x1 : Int) (x2 : Int) (ret : (Int × ByteArray × Int) → Option β) : Option β := (bif ((decide ((0 : Int) ≤ x2)) && (decide (x2 < ((ByteArray.size x0) : Int)))) then (bif (decide ((0 : Int) ≤ (IntKind.wrap IntKind.i64 ((7 : Int) * x2)))) then (bif (decide ((bt x0 x2) > (127 : Int))) then ((s2 x0 (IntKind.wrap IntKind.u64 ((BitVec.toNat ((BitVec.ofInt (64 : Nat) x1) ||| (BitVec.ofInt (64 : Nat) (IntKind.wrap IntKind.u64 ((IntKind.wrap IntKind.u64 (IntKind.wrap IntKind.u8 ((BitVec.toNat ((BitVec.ofInt (8 : Nat) (bt x0 x2)) &&& (BitVec.ofInt (8 : Nat) (127 : Int)))) : Int))) * ((2 : Int) ^ (Min.min (Int.toNat (IntKind.wrap IntKind.i64 ((7 : Int) * x2))) (64 : Nat)))))))) : Int)) (IntKind.wrap IntKind.i64 (x2 + (1 : Int)))).bind ret) else (bif ((bt x0 x2) == (0 : Int)) then (bif (decide ((IntKind.wrap IntKind.i64 (x2 + (1 : Int))) > (1 : Int))) then (ret ((0 : Int), (ByteArray.mk (List.toArray [])), (4 : Int))) else (bif (((decide ((0 : Int) ≤ (IntKind.wrap IntKind.i64 (x2 + (1 : Int))))) && (decide ((IntKind.wrap IntKind.i64 (x2 + (1 : Int))) ≤ ((ByteArray.size x0) : Int)))) && (decide (((ByteArray.size x0) : Int) ≤ ((ByteArray.size x0) : Int)))) then (ret ((IntKind.wrap IntKind.u64 ((BitVec.toNat ((BitVec.ofInt (64 : Nat) x1) ||| (BitVec.ofInt (64 : Nat) (IntKind.wrap IntKind.u64 ((IntKind.wrap IntKind.u64 (IntKind.wrap IntKind.u8 ((BitVec.toNat ((BitVec.ofInt (8 : Nat) (bt x0 x2)) &&& (BitVec.ofInt (8 : Nat) (127 : Int)))) : Int))) * ((2 : Int) ^ (Min.min (Int.toNat (IntKind.wrap IntKind.i64 ((7 : Int) * x2))) (64 : Nat)))))))) : Int)), (ByteArray.extract x0 (Int.toNat (IntKind.wrap IntKind.i64 (x2 + (1 : Int)))) (Int.toNat ((ByteArray.size x0) : Int))), (0 : Int))) else none)) else (bif (((decide ((0 : Int) ≤ (IntKind.wrap IntKind.i64 (x2 + (1 : Int))))) && (decide ((IntKind.wrap IntKind.i64 (x2 + (1 : Int))) ≤ ((ByteArray.size x0) : Int)))) && (decide (((ByteArray.size x0) : Int) ≤ ((ByteArray.size x0) : Int)))) then (ret ((IntKind.wrap IntKind.u64 ((BitVec.toNat ((BitVec.ofInt (64 : Nat) x1) ||| (BitVec.ofInt (64 : Nat) (IntKind.wrap IntKind.u64 ((IntKind.wrap IntKind.u64 (IntKind.wrap IntKind.u8 ((BitVec.toNat ((BitVec.ofInt (8 : Nat) (bt x0 x2)) &&& (BitVec.ofInt (8 : Nat) (127 : Int)))) : Int))) * ((2 : Int) ^ (Min.min (Int.toNat (IntKind.wrap IntKind.i64 ((7 : Int) * x2))) (64 : Nat)))))))) : Int)), (ByteArray.extract x0 (Int.toNat (IntKind.wrap IntKind.i64 (x2 + (1 : Int)))) (Int.toNat ((ByteArray.size x0) : Int))), (0 : Int))) else none))) else none) else none)
def s2c {β : Type}  (s0 : S0) (s1 : S1) (s2 : S2) (s3 : S3) (s4 : S4) (x0 : ByteArray) (x1 : Int) (x2 : Int) (ret : (Int × ByteArray × Int) → Option β) : Option β := (bif (x2 == ((ByteArray.size x0) : Int)) then (ret ((0 : Int), (ByteArray.mk (List.toArray [])), (3 : Int))) else (bif (x2 == (9 : Int)) then (bif ((decide ((0 : Int) ≤ x2)) && (decide (x2 < ((ByteArray.size x0) : Int)))) then ((s3 x0 x1 x2 (decide ((bt x0 x2) > (1 : Int)))).bind ret) else none) else ((s3 x0 x1 x2 false).bind ret)))
def s3c {β : Type}  (s0 : S0) (s1 : S1) (s2 : S2) (s3 : S3) (s4 : S4) (x0 : ByteArray) (x1 : Int) (x2 : Int) (x3 : Bool) (ret : (Int × ByteArray × Int) → Option β) : Option β := (bif x3 then (ret ((0 : Int), (ByteArray.mk (List.toArray [])), (4 : Int))) else ((s4 x0 x1 x2).bind ret))
def s4c {β : Type}  (s0 : S0) (s1 : S1) (s2 : S2) (s3 : S3) (s4 : S4) (x0 : ByteArray) (x1 : Int) (x2 : Int) (ret : (Int × ByteArray × Int) → Option β) : Option β := (bif ((decide ((0 : Int) ≤ x2)) && (decide (x2 < ((ByteArray.size x0) : Int)))) then (bif (decide ((0 : Int) ≤ (IntKind.wrap IntKind.i64 ((7 : Int) * x2)))) then (bif (decide ((bt x0 x2) > (127 : Int))) then ((s2 x0 (IntKind.wrap IntKind.u64 ((BitVec.toNat ((BitVec.ofInt (64 : Nat) x1) ||| (BitVec.ofInt (64 : Nat) (IntKind.wrap IntKind.u64 ((IntKind.wrap IntKind.u64 (IntKind.wrap IntKind.u8 ((BitVec.toNat ((BitVec.ofInt (8 : Nat) (bt x0 x2)) &&& (BitVec.ofInt (8 : Nat) (127 : Int)))) : Int))) * ((2 : Int) ^ (Min.min (Int.toNat (IntKind.wrap IntKind.i64 ((7 : Int) * x2))) (64 : Nat)))))))) : Int)) (IntKind.wrap IntKind.i64 (x2 + (1 : Int)))).bind ret) else (bif ((bt x0 x2) == (0 : Int)) then (bif (decide ((IntKind.wrap IntKind.i64 (x2 + (1 : Int))) > (1 : Int))) then (ret ((0 : Int), (ByteArray.mk (List.toArray [])), (4 : Int))) else (bif (((decide ((0 : Int) ≤ (IntKind.wrap IntKind.i64 (x2 + (1 : Int))))) && (decide ((IntKind.wrap IntKind.i64 (x2 + (1 : Int))) ≤ ((ByteArray.size x0) : Int)))) && (decide (((ByteArray.size x0) : Int) ≤ ((ByteArray.size x0) : Int)))) then (ret ((IntKind.wrap IntKind.u64 ((BitVec.toNat ((BitVec.ofInt (64 : Nat) x1) ||| (BitVec.ofInt (64 : Nat) (IntKind.wrap IntKind.u64 ((IntKind.wrap IntKind.u64 (IntKind.wrap IntKind.u8 ((BitVec.toNat ((BitVec.ofInt (8 : Nat) (bt x0 x2)) &&& (BitVec.ofInt (8 : Nat) (127 : Int)))) : Int))) * ((2 : Int) ^ (Min.min (Int.toNat (IntKind.wrap IntKind.i64 ((7 : Int) * x2))) (64 : Nat)))))))) : Int)), (ByteArray.extract x0 (Int.toNat (IntKind.wrap IntKind.i64 (x2 + (1 : Int)))) (Int.toNat ((ByteArray.size x0) : Int))), (0 : Int))) else none)) else (bif (((decide ((0 : Int) ≤ (IntKind.wrap IntKind.i64 (x2 + (1 : Int))))) && (decide ((IntKind.wrap IntKind.i64 (x2 + (1 : Int))) ≤ ((ByteArray.size x0) : Int)))) && (decide (((ByteArray.size x0) : Int) ≤ ((ByteArray.size x0) : Int)))) then (ret ((IntKind.wrap IntKind.u64 ((BitVec.toNat ((BitVec.ofInt (64 : Nat) x1) ||| (BitVec.ofInt (64 : Nat) (IntKind.wrap IntKind.u64 ((IntKind.wrap IntKind.u64 (IntKind.wrap IntKind.u8 ((BitVec.toNat ((BitVec.ofInt (8 : Nat) (bt x0 x2)) &&& (BitVec.ofInt (8 : Nat) (127 : Int)))) : Int))) * ((2 : Int) ^ (Min.min (Int.toNat (IntKind.wrap IntKind.i64 ((7 : Int) * x2))) (64 : Nat)))))))) : Int)), (ByteArray.extract x0 (Int.toNat (IntKind.wrap IntKind.i64 (x2 + (1 : Int)))) (Int.toNat ((ByteArray.size x0) : Int))), (0 : Int))) else none))) else none) else none)
theorem c_bind {β : Type}  {s0 : S0} {s1 : S1} {s2 : S2} {s3 : S3} {s4 : S4} {a0 : ByteArray} {ret : (Int × ByteArray × Int) → Option β} : c  s0 s1 s2 s3 s4 a0 ret = (c  s0 s1 s2 s3 s4 a0 some).bind ret := by
  simp only [c, bif_bind, sum_bind, oa, os, on, ofs]
theorem s0c_bind {β : Type}  {s0 : S0} {s1 : S1} {s2 : S2} {s3 : S3} {s4 : S4} {x0 : ByteArray} {x1 : Int} {x2 : Int} {x3 : Bool} {ret : (Int × ByteArray × Int) → Option β} : s0c  s0 s1 s2 s3 s4 x0 x1 x2 x3 ret = (s0c  s0 s1 s2 s3 s4 x0 x1 x2 x3 some).bind ret := by
  simp only [s0c, bif_bind, sum_bind, oa, os, on, ofs]
theorem s1c_bind {β : Type}  {s0 : S0} {s1 : S1} {s2 : S2} {s3 : S3} {s4 : S4} {x0 : ByteArray} {x1 : Int} {x2 : Int} {ret : (Int × ByteArray × Int) → Option β} : s1c  s0 s1 s2 s3 s4 x0 x1 x2 ret = (s1c  s0 s1 s2 s3 s4 x0 x1 x2 some).bind ret := by
  simp only [s1c, bif_bind, sum_bind, oa, os, on, ofs]
theorem s2c_bind {β : Type}  {s0 : S0} {s1 : S1} {s2 : S2} {s3 : S3} {s4 : S4} {x0 : ByteArray} {x1 : Int} {x2 : Int} {ret : (Int × ByteArray × Int) → Option β} : s2c  s0 s1 s2 s3 s4 x0 x1 x2 ret = (s2c  s0 s1 s2 s3 s4 x0 x1 x2 some).bind ret := by
  simp only [s2c, bif_bind, sum_bind, oa, os, on, ofs]
theorem s3c_bind {β : Type}  {s0 : S0} {s1 : S1} {s2 : S2} {s3 : S3} {s4 : S4} {x0 : ByteArray} {x1 : Int} {x2 : Int} {x3 : Bool} {ret : (Int × ByteArray × Int) → Option β} : s3c  s0 s1 s2 s3 s4 x0 x1 x2 x3 ret = (s3c  s0 s1 s2 s3 s4 x0 x1 x2 x3 some).bind ret := by
  simp only [s3c, bif_bind, sum_bind, oa, os, on, ofs]
theorem s4c_bind {β : Type}  {s0 : S0} {s1 : S1} {s2 : S2} {s3 : S3} {s4 : S4} {x0 : ByteArray} {x1 : Int} {x2 : Int} {ret : (Int × ByteArray × Int) → Option β} : s4c  s0 s1 s2 s3 s4 x0 x1 x2 ret = (s4c  s0 s1 s2 s3 s4 x0 x1 x2 some).bind ret := by
  simp only [s4c, bif_bind, sum_bind, oa, os, on, ofs]
theorem ev  {s0 : S0} {s1 : S1} {s2 : S2} {s3 : S3} {s4 : S4} {a0 : ByteArray} : evAt (env  s0 s1 s2 s3 s4) [] [0] [.v (.one (.d .str a0))] [] some = c  s0 s1 s2 s3 s4 a0 (fun r => some ⟨.tup [(.one (.d (.int .u64) r.1)), (.one (.d .str r.2.1)), (.one (.d (.int .i64) r.2.2))], []⟩) := by
  kernel_rfl
theorem s0_ev  {s0 : S0} {s1 : S1} {s2 : S2} {s3 : S3} {s4 : S4} {x0 : ByteArray} {x1 : Int} {x2 : Int} {x3 : Bool} : evAt (env  s0 s1 s2 s3 s4) [1, 3, 1, 4, 0, 1, 1, 1, 6, 1] [0, 5, 6, 13] [.v (.one (.d .str x0)), .v (.one (.d (.int .u64) x1)), .v (.one (.d (.int .i64) x2)), .v (.one (.d .bool x3))] [] some = s0c  s0 s1 s2 s3 s4 x0 x1 x2 x3 (fun r => some ⟨.tup [(.one (.d (.int .u64) r.1)), (.one (.d .str r.2.1)), (.one (.d (.int .i64) r.2.2))], []⟩) := by
  kernel_rfl
theorem s1_ev  {s0 : S0} {s1 : S1} {s2 : S2} {s3 : S3} {s4 : S4} {x0 : ByteArray} {x1 : Int} {x2 : Int} : evAt (env  s0 s1 s2 s3 s4) [1, 1, 1, 1, 6, 1] [0, 5, 6] [.v (.one (.d .str x0)), .v (.one (.d (.int .u64) x1)), .v (.one (.d (.int .i64) x2))] [] some = s1c  s0 s1 s2 s3 s4 x0 x1 x2 (fun r => some ⟨.tup [(.one (.d (.int .u64) r.1)), (.one (.d .str r.2.1)), (.one (.d (.int .i64) r.2.2))], []⟩) := by
  kernel_rfl
theorem s2_ev  {s0 : S0} {s1 : S1} {s2 : S2} {s3 : S3} {s4 : S4} {x0 : ByteArray} {x1 : Int} {x2 : Int} : evAt (env  s0 s1 s2 s3 s4) [100, 1] [0, 5, 6] [.v (.one (.d .str x0)), .v (.one (.d (.int .u64) x1)), .v (.one (.d (.int .i64) x2))] [] some = s2c  s0 s1 s2 s3 s4 x0 x1 x2 (fun r => some ⟨.tup [(.one (.d (.int .u64) r.1)), (.one (.d .str r.2.1)), (.one (.d (.int .i64) r.2.2))], []⟩) := by
  kernel_rfl
theorem s3_ev  {s0 : S0} {s1 : S1} {s2 : S2} {s3 : S3} {s4 : S4} {x0 : ByteArray} {x1 : Int} {x2 : Int} {x3 : Bool} : evAt (env  s0 s1 s2 s3 s4) [1, 3, 1, 4, 0, 1, 100, 1] [0, 5, 6, 13] [.v (.one (.d .str x0)), .v (.one (.d (.int .u64) x1)), .v (.one (.d (.int .i64) x2)), .v (.one (.d .bool x3))] [] some = s3c  s0 s1 s2 s3 s4 x0 x1 x2 x3 (fun r => some ⟨.tup [(.one (.d (.int .u64) r.1)), (.one (.d .str r.2.1)), (.one (.d (.int .i64) r.2.2))], []⟩) := by
  kernel_rfl
theorem s4_ev  {s0 : S0} {s1 : S1} {s2 : S2} {s3 : S3} {s4 : S4} {x0 : ByteArray} {x1 : Int} {x2 : Int} : evAt (env  s0 s1 s2 s3 s4) [1, 1, 100, 1] [0, 5, 6] [.v (.one (.d .str x0)), .v (.one (.d (.int .u64) x1)), .v (.one (.d (.int .i64) x2))] [] some = s4c  s0 s1 s2 s3 s4 x0 x1 x2 (fun r => some ⟨.tup [(.one (.d (.int .u64) r.1)), (.one (.d .str r.2.1)), (.one (.d (.int .i64) r.2.2))], []⟩) := by
  kernel_rfl
mutual
def s0 : Nat → ByteArray → Int → Int → Bool → Option (Int × ByteArray × Int)
  | 0, _, _, _, _ => none
  | k + 1, x0, x1, x2, x3 => s0c  (s0 k) (s1 k) (s2 k) (s3 k) (s4 k) x0 x1 x2 x3 some
def s1 : Nat → ByteArray → Int → Int → Option (Int × ByteArray × Int)
  | 0, _, _, _ => none
  | k + 1, x0, x1, x2 => s1c  (s0 k) (s1 k) (s2 k) (s3 k) (s4 k) x0 x1 x2 some
def s2 : Nat → ByteArray → Int → Int → Option (Int × ByteArray × Int)
  | 0, _, _, _ => none
  | k + 1, x0, x1, x2 => s2c  (s0 k) (s1 k) (s2 k) (s3 k) (s4 k) x0 x1 x2 some
def s3 : Nat → ByteArray → Int → Int → Bool → Option (Int × ByteArray × Int)
  | 0, _, _, _, _ => none
  | k + 1, x0, x1, x2, x3 => s3c  (s0 k) (s1 k) (s2 k) (s3 k) (s4 k) x0 x1 x2 x3 some
def s4 : Nat → ByteArray → Int → Int → Option (Int × ByteArray × Int)
  | 0, _, _, _ => none
  | k + 1, x0, x1, x2 => s4c  (s0 k) (s1 k) (s2 k) (s3 k) (s4 k) x0 x1 x2 some
end
def f (k : Nat) (a0 : ByteArray) : Option (Int × ByteArray × Int) := c  (s0 k) (s1 k) (s2 k) (s3 k) (s4 k) a0 some
theorem is  {s0 : S0} {s1 : S1} {s2 : S2} {s3 : S3} {s4 : S4} : FnIs (env  s0 s1 s2 s3 s4) 63 f63 := ⟨func63, rfl, rfl, rfl, by decide⟩
theorem envok  {s0 : S0} {s1 : S1} {s2 : S2} {s3 : S3} {s4 : S4}  : EnvOK (env  s0 s1 s2 s3 s4).toEnv := by
  intro f c h
  simp only [env] at h
  simp at h
noncomputable abbrev E (k : Nat) : FEnv := env  (s0 k) (s1 k) (s2 k) (s3 k) (s4 k)
theorem hE (k : Nat) : EnvOK (E k).toEnv := envok 
theorem segs_ok : ∀ k, ∀ s ∈ (E k).segs, SegOK (E k) f63 s
  | 0 => by
    intro s hs
    simp only [E, env, List.mem_cons, List.not_mem_nil, or_false] at hs
    rcases hs with rfl | rfl | rfl | rfl | rfl
    · intro tvs blks res h; exfalso; simp only [sg0] at h; split at h <;> simp [s0] at h
    · intro tvs blks res h; exfalso; simp only [sg1] at h; split at h <;> simp [s1] at h
    · intro tvs blks res h; exfalso; simp only [sg2] at h; split at h <;> simp [s2] at h
    · intro tvs blks res h; exfalso; simp only [sg3] at h; split at h <;> simp [s3] at h
    · intro tvs blks res h; exfalso; simp only [sg4] at h; split at h <;> simp [s4] at h
  | k + 1 => by
    intro s hs
    simp only [E, env, List.mem_cons, List.not_mem_nil, or_false] at hs
    rcases hs with rfl | rfl | rfl | rfl | rfl
    · refine seg_of_ev (E := E k) (hE k) ⟨is.rvs⟩ (segs_ok k) ?_
      intro tvs blks res h
      simp only [sg0] at h
      split at h
      · exact (s0_ev.trans s0c_bind).trans h
      · simp at h
    · refine seg_of_ev (E := E k) (hE k) ⟨is.rvs⟩ (segs_ok k) ?_
      intro tvs blks res h
      simp only [sg1] at h
      split at h
      · exact (s1_ev.trans s1c_bind).trans h
      · simp at h
    · refine seg_of_ev (E := E k) (hE k) ⟨is.rvs⟩ (segs_ok k) ?_
      intro tvs blks res h
      simp only [sg2] at h
      split at h
      · exact (s2_ev.trans s2c_bind).trans h
      · simp at h
    · refine seg_of_ev (E := E k) (hE k) ⟨is.rvs⟩ (segs_ok k) ?_
      intro tvs blks res h
      simp only [sg3] at h
      split at h
      · exact (s3_ev.trans s3c_bind).trans h
      · simp at h
    · refine seg_of_ev (E := E k) (hE k) ⟨is.rvs⟩ (segs_ok k) ?_
      intro tvs blks res h
      simp only [sg4] at h
      split at h
      · exact (s4_ev.trans s4c_bind).trans h
      · simp at h
theorem ok (k : Nat) : CtOK prog 63 (ct (f k)) := by
  refine ct_of_ev (E := E k) is (hE k) (segs_ok k) rfl ?_
  intro tvs blks res h
  simp only [ct] at h
  split at h
  · exact (ev.trans c_bind).trans h
  · simp at h
end pack_ReadUint
namespace pack_ReadText
abbrev G : Type := ByteArray → Option (ByteArray × ByteArray × Int)
def ct (g : G) : Ct where
  nin := 0
  mv := []
  F := fun tvs blks {β} K => match tvs, blks with
    | [.v (.one (.d .str a0))], [] => (g a0).bind fun r => K ⟨.tup [(.one (.d .str r.1)), (.one (.d .str r.2.1)), (.one (.d (.int .i64) r.2.2))], []⟩
    | _, _ => none
  legit := fun _ _ K _ h => by split at h; exact (legit1 K h :); simp at h
noncomputable def env (g63 : pack_ReadUint.G)  : FEnv := { P := prog, ct := fun m => if m = 63 then some (pack_ReadUint.ct g63) else none, N := 30, body := f62.body.getD .skip, rvs := [.tmp 2, .tmp 3, .tmp 4], rts := [9, 9, 29], nin := 0, rmv := [], segs := [] }
def c {β : Type} (g63 : pack_ReadUint.G)  (a0 : ByteArray) (ret : (ByteArray × ByteArray × Int) → Option β) : Option β := ((g63 a0).bind fun r0 => (bif (r0.2.2 != (0 : Int)) then (ret ((ByteArray.mk (List.toArray [])), (ByteArray.mk (List.toArray [])), r0.2.2)) else (bif (decide (r0.1 > (IntKind.wrap IntKind.u64 ((ByteArray.size r0.2.1) : Int)))) then (ret ((ByteArray.mk (List.toArray [])), (ByteArray.mk (List.toArray [])), (3 : Int))) else (bif ((true && (decide ((0 : Int) ≤ r0.1))) && (decide (r0.1 ≤ ((ByteArray.size r0.2.1) : Int)))) then (bif (((decide ((0 : Int) ≤ r0.1)) && (decide (r0.1 ≤ ((ByteArray.size r0.2.1) : Int)))) && (decide (((ByteArray.size r0.2.1) : Int) ≤ ((ByteArray.size r0.2.1) : Int)))) then (ret ((ByteArray.extract r0.2.1 (0 : Nat) (Int.toNat r0.1)), (ByteArray.extract r0.2.1 (Int.toNat r0.1) (Int.toNat ((ByteArray.size r0.2.1) : Int))), (0 : Int))) else none) else none))))
theorem c_bind {β : Type} {g63 : pack_ReadUint.G}  {a0 : ByteArray} {ret : (ByteArray × ByteArray × Int) → Option β} : c g63  a0 ret = (c g63  a0 some).bind ret := by
  simp only [c, bif_bind, sum_bind, oa, os, on, ofs]
theorem ev {g63 : pack_ReadUint.G}  {a0 : ByteArray} : evAt (env g63 ) [] [0] [.v (.one (.d .str a0))] [] some = c g63  a0 (fun r => some ⟨.tup [(.one (.d .str r.1)), (.one (.d .str r.2.1)), (.one (.d (.int .i64) r.2.2))], []⟩) := by
  kernel_rfl
def f (k : Nat) (a0 : ByteArray) : Option (ByteArray × ByteArray × Int) := c (pack_ReadUint.f k)  a0 some
theorem is {g63 : pack_ReadUint.G}  : FnIs (env g63 ) 62 f62 := ⟨func62, rfl, rfl, rfl, by decide⟩
theorem envok {g63 : pack_ReadUint.G}  (h63 : CtOK prog 63 (pack_ReadUint.ct g63)) : EnvOK (env g63 ).toEnv := by
  intro f c h
  simp only [env] at h
  split at h
  · rename_i e; subst e; cases h; exact h63
  simp at h
noncomputable abbrev E (k : Nat) : FEnv := env (pack_ReadUint.f k) 
theorem hE (k : Nat) : EnvOK (E k).toEnv := envok (pack_ReadUint.ok k)
theorem ok (k : Nat) : CtOK prog 62 (ct (f k)) := by
  refine ct_of_ev (E := E k) is (hE k) (fun s hs => by simp [E, env] at hs) rfl ?_
  intro tvs blks res h
  simp only [ct] at h
  split at h
  · exact (ev.trans c_bind).trans h
  · simp at h
end pack_ReadText
namespace schema_reader_text
abbrev G : Type := ByteArray → Int → Option (ByteArray × ByteArray × Int)
def ct (g : G) : Ct where
  nin := 1
  mv := []
  F := fun tvs blks {β} K => match tvs, blks with
    | [.v (.one (.ptr 0 0))], [.box [(.d .str a0), (.d (.int .i64) a1)]] => (g a0 a1).bind fun r => K ⟨.v (.one (.d .str r.1)), [some (.box [(.d .str r.2.1), (.d (.int .i64) r.2.2)])]⟩
    | _, _ => none
  legit := fun _ _ K _ h => by split at h; exact (legit1 K h :); simp at h
noncomputable def env (g62 : pack_ReadText.G)  : FEnv := { P := prog, ct := fun m => if m = 62 then some (pack_ReadText.ct g62) else none, N := 29, body := f36.body.getD .skip, rvs := [.tmp 2], rts := [9], nin := 1, rmv := [], segs := [] }
def c {β : Type} (g62 : pack_ReadText.G)  (a0 : ByteArray) (a1 : Int) (ret : (ByteArray × ByteArray × Int) → Option β) : Option β := (bif (a1 != (0 : Int)) then (ret ((ByteArray.mk (List.toArray [])), a0, a1)) else ((g62 a0).bind fun r0 => (ret (r0.1, r0.2.1, r0.2.2))))
theorem c_bind {β : Type} {g62 : pack_ReadText.G}  {a0 : ByteArray} {a1 : Int} {ret : (ByteArray × ByteArray × Int) → Option β} : c g62  a0 a1 ret = (c g62  a0 a1 some).bind ret := by
  simp only [c, bif_bind, sum_bind, oa, os, on, ofs]
theorem ev {g62 : pack_ReadText.G}  {a0 : ByteArray} {a1 : Int} : evAt (env g62 ) [] [0] [.v (.one (.ptr 0 0))] [some (.box [(.d .str a0), (.d (.int .i64) a1)])] some = c g62  a0 a1 (fun r => some ⟨.v (.one (.d .str r.1)), [some (.box [(.d .str r.2.1), (.d (.int .i64) r.2.2)])]⟩) := by
  kernel_rfl
def f (k : Nat) (a0 : ByteArray) (a1 : Int) : Option (ByteArray × ByteArray × Int) := c (pack_ReadText.f k)  a0 a1 some
theorem is {g62 : pack_ReadText.G}  : FnIs (env g62 ) 36 f36 := ⟨func36, rfl, rfl, rfl, by decide⟩
theorem envok {g62 : pack_ReadText.G}  (h62 : CtOK prog 62 (pack_ReadText.ct g62)) : EnvOK (env g62 ).toEnv := by
  intro f c h
  simp only [env] at h
  split at h
  · rename_i e; subst e; cases h; exact h62
  simp at h
noncomputable abbrev E (k : Nat) : FEnv := env (pack_ReadText.f k) 
theorem hE (k : Nat) : EnvOK (E k).toEnv := envok (pack_ReadText.ok k)
theorem ok (k : Nat) : CtOK prog 36 (ct (f k)) := by
  refine ct_of_ev (E := E k) is (hE k) (fun s hs => by simp [E, env] at hs) rfl ?_
  intro tvs blks res h
  simp only [ct] at h
  split at h
  · exact (ev.trans c_bind).trans h
  · simp at h
end schema_reader_text
namespace schema_reader_fail
abbrev G : Type := Int → ByteArray → Int → Option (ByteArray × Int)
def ct (g : G) : Ct where
  nin := 1
  mv := []
  F := fun tvs blks {β} K => match tvs, blks with
    | [.v (.one (.ptr 0 0)), .v (.one (.d (.int .i64) a0))], [.box [(.d .str a1), (.d (.int .i64) a2)]] => (g a0 a1 a2).bind fun r => K ⟨.tup [], [some (.box [(.d .str r.1), (.d (.int .i64) r.2)])]⟩
    | _, _ => none
  legit := fun _ _ K _ h => by split at h; exact (legit1 K h :); simp at h
noncomputable def env   : FEnv := { P := prog, ct := fun m => none, N := 13, body := f40.body.getD .skip, rvs := [], rts := [], nin := 1, rmv := [], segs := [] }
def c {β : Type}   (a0 : Int) (a1 : ByteArray) (a2 : Int) (ret : (ByteArray × Int) → Option β) : Option β := (bif (a2 == (0 : Int)) then (ret (a1, a0)) else (ret (a1, a2)))
theorem c_bind {β : Type}   {a0 : Int} {a1 : ByteArray} {a2 : Int} {ret : (ByteArray × Int) → Option β} : c   a0 a1 a2 ret = (c   a0 a1 a2 some).bind ret := by
  simp only [c, bif_bind, sum_bind, oa, os, on, ofs]
theorem ev   {a0 : Int} {a1 : ByteArray} {a2 : Int} : evAt (env  ) [] [0, 1] [.v (.one (.ptr 0 0)), .v (.one (.d (.int .i64) a0))] [some (.box [(.d .str a1), (.d (.int .i64) a2)])] some = c   a0 a1 a2 (fun r => some ⟨.tup [], [some (.box [(.d .str r.1), (.d (.int .i64) r.2)])]⟩) := by
  kernel_rfl
def f (k : Nat) (a0 : Int) (a1 : ByteArray) (a2 : Int) : Option (ByteArray × Int) := c   a0 a1 a2 some
theorem is   : FnIs (env  ) 40 f40 := ⟨func40, rfl, rfl, rfl, by decide⟩
theorem envok    : EnvOK (env  ).toEnv := by
  intro f c h
  simp only [env] at h
  simp at h
noncomputable abbrev E (k : Nat) : FEnv := env  
theorem hE (k : Nat) : EnvOK (E k).toEnv := envok 
theorem ok (k : Nat) : CtOK prog 40 (ct (f k)) := by
  refine ct_of_ev (E := E k) is (hE k) (fun s hs => by simp [E, env] at hs) rfl ?_
  intro tvs blks res h
  simp only [ct] at h
  split at h
  · exact (ev.trans c_bind).trans h
  · simp at h
end schema_reader_fail
namespace schema_reader_uint
abbrev G : Type := Int → Int → ByteArray → Int → Option (Int × ByteArray × Int)
def ct (g : G) : Ct where
  nin := 1
  mv := []
  F := fun tvs blks {β} K => match tvs, blks with
    | [.v (.one (.ptr 0 0)), .v (.one (.d (.int .u64) a0)), .v (.one (.d (.int .i64) a1))], [.box [(.d .str a2), (.d (.int .i64) a3)]] => (g a0 a1 a2 a3).bind fun r => K ⟨.v (.one (.d (.int .i64) r.1)), [some (.box [(.d .str r.2.1), (.d (.int .i64) r.2.2)])]⟩
    | _, _ => none
  legit := fun _ _ K _ h => by split at h; exact (legit1 K h :); simp at h
noncomputable def env (g40 : schema_reader_fail.G) (g63 : pack_ReadUint.G)  : FEnv := { P := prog, ct := fun m => if m = 40 then some (schema_reader_fail.ct g40) else if m = 63 then some (pack_ReadUint.ct g63) else none, N := 40, body := f37.body.getD .skip, rvs := [.tmp 6], rts := [3], nin := 1, rmv := [], segs := [] }
def c {β : Type} (g40 : schema_reader_fail.G) (g63 : pack_ReadUint.G)  (a0 : Int) (a1 : Int) (a2 : ByteArray) (a3 : Int) (ret : (Int × ByteArray × Int) → Option β) : Option β := (bif (a3 != (0 : Int)) then (ret ((0 : Int), a2, a3)) else ((g63 a2).bind fun r0 => (bif (decide (r0.1 > a0)) then ((g40 a1 r0.2.1 r0.2.2).bind fun r1 => (ret ((0 : Int), r1.1, r1.2))) else (ret ((IntKind.wrap IntKind.i64 r0.1), r0.2.1, r0.2.2)))))
theorem c_bind {β : Type} {g40 : schema_reader_fail.G} {g63 : pack_ReadUint.G}  {a0 : Int} {a1 : Int} {a2 : ByteArray} {a3 : Int} {ret : (Int × ByteArray × Int) → Option β} : c g40 g63  a0 a1 a2 a3 ret = (c g40 g63  a0 a1 a2 a3 some).bind ret := by
  simp only [c, bif_bind, sum_bind, oa, os, on, ofs]
theorem ev {g40 : schema_reader_fail.G} {g63 : pack_ReadUint.G}  {a0 : Int} {a1 : Int} {a2 : ByteArray} {a3 : Int} : evAt (env g40 g63 ) [] [0, 1, 2] [.v (.one (.ptr 0 0)), .v (.one (.d (.int .u64) a0)), .v (.one (.d (.int .i64) a1))] [some (.box [(.d .str a2), (.d (.int .i64) a3)])] some = c g40 g63  a0 a1 a2 a3 (fun r => some ⟨.v (.one (.d (.int .i64) r.1)), [some (.box [(.d .str r.2.1), (.d (.int .i64) r.2.2)])]⟩) := by
  kernel_rfl
def f (k : Nat) (a0 : Int) (a1 : Int) (a2 : ByteArray) (a3 : Int) : Option (Int × ByteArray × Int) := c (schema_reader_fail.f k) (pack_ReadUint.f k)  a0 a1 a2 a3 some
theorem is {g40 : schema_reader_fail.G} {g63 : pack_ReadUint.G}  : FnIs (env g40 g63 ) 37 f37 := ⟨func37, rfl, rfl, rfl, by decide⟩
theorem envok {g40 : schema_reader_fail.G} {g63 : pack_ReadUint.G}  (h40 : CtOK prog 40 (schema_reader_fail.ct g40)) (h63 : CtOK prog 63 (pack_ReadUint.ct g63)) : EnvOK (env g40 g63 ).toEnv := by
  intro f c h
  simp only [env] at h
  split at h
  · rename_i e; subst e; cases h; exact h40
  split at h
  · rename_i e; subst e; cases h; exact h63
  simp at h
noncomputable abbrev E (k : Nat) : FEnv := env (schema_reader_fail.f k) (pack_ReadUint.f k) 
theorem hE (k : Nat) : EnvOK (E k).toEnv := envok (schema_reader_fail.ok k) (pack_ReadUint.ok k)
theorem ok (k : Nat) : CtOK prog 37 (ct (f k)) := by
  refine ct_of_ev (E := E k) is (hE k) (fun s hs => by simp [E, env] at hs) rfl ?_
  intro tvs blks res h
  simp only [ct] at h
  split at h
  · exact (ev.trans c_bind).trans h
  · simp at h
end schema_reader_uint
namespace schema_reader_flag
abbrev G : Type := ByteArray → Int → Option (Bool × ByteArray × Int)
def ct (g : G) : Ct where
  nin := 1
  mv := []
  F := fun tvs blks {β} K => match tvs, blks with
    | [.v (.one (.ptr 0 0))], [.box [(.d .str a0), (.d (.int .i64) a1)]] => (g a0 a1).bind fun r => K ⟨.v (.one (.d .bool r.1)), [some (.box [(.d .str r.2.1), (.d (.int .i64) r.2.2)])]⟩
    | _, _ => none
  legit := fun _ _ K _ h => by split at h; exact (legit1 K h :); simp at h
noncomputable def env (g40 : schema_reader_fail.G)  : FEnv := { P := prog, ct := fun m => if m = 40 then some (schema_reader_fail.ct g40) else none, N := 42, body := f38.body.getD .skip, rvs := [.tmp 2], rts := [4], nin := 1, rmv := [], segs := [] }
def c {β : Type} (g40 : schema_reader_fail.G)  (a0 : ByteArray) (a1 : Int) (ret : (Bool × ByteArray × Int) → Option β) : Option β := (bif (a1 != (0 : Int)) then (ret (false, a0, a1)) else (bif ((ByteArray.toList a0) == (ByteArray.toList (ByteArray.mk (List.toArray [])))) then ((g40 (3 : Int) a0 a1).bind fun r0 => (ret (false, r0.1, r0.2))) else (bif (true && (decide ((0 : Int) < ((ByteArray.size a0) : Int)))) then (bif (decide ((bt a0 (0 : Int)) > (1 : Int))) then ((g40 (4 : Int) a0 a1).bind fun r1 => (ret (false, r1.1, r1.2))) else (bif (true && (decide ((0 : Int) < ((ByteArray.size a0) : Int)))) then (bif ((true && (decide ((1 : Int) ≤ ((ByteArray.size a0) : Int)))) && (decide (((ByteArray.size a0) : Int) ≤ ((ByteArray.size a0) : Int)))) then (ret (((bt a0 (0 : Int)) == (1 : Int)), (ByteArray.extract a0 (1 : Nat) (Int.toNat ((ByteArray.size a0) : Int))), a1)) else none) else none)) else none)))
theorem c_bind {β : Type} {g40 : schema_reader_fail.G}  {a0 : ByteArray} {a1 : Int} {ret : (Bool × ByteArray × Int) → Option β} : c g40  a0 a1 ret = (c g40  a0 a1 some).bind ret := by
  simp only [c, bif_bind, sum_bind, oa, os, on, ofs]
theorem ev {g40 : schema_reader_fail.G}  {a0 : ByteArray} {a1 : Int} : evAt (env g40 ) [] [0] [.v (.one (.ptr 0 0))] [some (.box [(.d .str a0), (.d (.int .i64) a1)])] some = c g40  a0 a1 (fun r => some ⟨.v (.one (.d .bool r.1)), [some (.box [(.d .str r.2.1), (.d (.int .i64) r.2.2)])]⟩) := by
  kernel_rfl
def f (k : Nat) (a0 : ByteArray) (a1 : Int) : Option (Bool × ByteArray × Int) := c (schema_reader_fail.f k)  a0 a1 some
theorem is {g40 : schema_reader_fail.G}  : FnIs (env g40 ) 38 f38 := ⟨func38, rfl, rfl, rfl, by decide⟩
theorem envok {g40 : schema_reader_fail.G}  (h40 : CtOK prog 40 (schema_reader_fail.ct g40)) : EnvOK (env g40 ).toEnv := by
  intro f c h
  simp only [env] at h
  split at h
  · rename_i e; subst e; cases h; exact h40
  simp at h
noncomputable abbrev E (k : Nat) : FEnv := env (schema_reader_fail.f k) 
theorem hE (k : Nat) : EnvOK (E k).toEnv := envok (schema_reader_fail.ok k)
theorem ok (k : Nat) : CtOK prog 38 (ct (f k)) := by
  refine ct_of_ev (E := E k) is (hE k) (fun s hs => by simp [E, env] at hs) rfl ?_
  intro tvs blks res h
  simp only [ct] at h
  split at h
  · exact (ev.trans c_bind).trans h
  · simp at h
end schema_reader_flag
namespace keycode_need
abbrev G : Type := Int → Option Int
def ct (g : G) : Ct where
  nin := 0
  mv := []
  F := fun tvs blks {β} K => match tvs, blks with
    | [.v (.one (.d (.int .i64) a0))], [] => (g a0).bind fun r => K ⟨.v (.one (.d (.int .i64) r)), []⟩
    | _, _ => none
  legit := fun _ _ K _ h => by split at h; exact (legit1 K h :); simp at h
noncomputable def env   : FEnv := { P := prog, ct := fun m => none, N := 9, body := f83.body.getD .skip, rvs := [.tmp 2], rts := [3], nin := 0, rmv := [], segs := [] }
def c {β : Type}   (a0 : Int) (ret : Int → Option β) : Option β := (bif (a0 == (1 : Int)) then (ret ((1 : Int))) else (bif (a0 == (2 : Int)) then (bif (a0 == (2 : Int)) then (ret ((8 : Int))) else (ret ((0 : Int)))) else (bif (a0 == (3 : Int)) then (ret ((8 : Int))) else (ret ((0 : Int))))))
theorem c_bind {β : Type}   {a0 : Int} {ret : Int → Option β} : c   a0 ret = (c   a0 some).bind ret := by
  simp only [c, bif_bind, sum_bind, oa, os, on, ofs]
theorem ev   {a0 : Int} : evAt (env  ) [] [0] [.v (.one (.d (.int .i64) a0))] [] some = c   a0 (fun r => some ⟨.v (.one (.d (.int .i64) r)), []⟩) := by
  kernel_rfl
def f (k : Nat) (a0 : Int) : Option Int := c   a0 some
theorem is   : FnIs (env  ) 83 f83 := ⟨func83, rfl, rfl, rfl, by decide⟩
theorem envok    : EnvOK (env  ).toEnv := by
  intro f c h
  simp only [env] at h
  simp at h
noncomputable abbrev E (k : Nat) : FEnv := env  
theorem hE (k : Nat) : EnvOK (E k).toEnv := envok 
theorem ok (k : Nat) : CtOK prog 83 (ct (f k)) := by
  refine ct_of_ev (E := E k) is (hE k) (fun s hs => by simp [E, env] at hs) rfl ?_
  intro tvs blks res h
  simp only [ct] at h
  split at h
  · exact (ev.trans c_bind).trans h
  · simp at h
end keycode_need
namespace keycode_get8
abbrev G : Type := ByteArray → Option Int
def ct (g : G) : Ct where
  nin := 0
  mv := []
  F := fun tvs blks {β} K => match tvs, blks with
    | [.v (.one (.d .str a0))], [] => (g a0).bind fun r => K ⟨.v (.one (.d (.int .u64) r)), []⟩
    | _, _ => none
  legit := fun _ _ K _ h => by split at h; exact (legit1 K h :); simp at h
abbrev S0 : Type := ByteArray → Int → Int → Option Int
def sg0 (g : S0) : Seg where
  path := [4, 1, 0, 1, 1]
  prep := []
  keep := [0, 3, 5]
  F := fun tvs blks {β} K => match tvs, blks with
    | [.v (.one (.d .str x0)), .v (.one (.d (.int .u64) x1)), .v (.one (.d (.int .i64) x2))], [] => (g x0 x1 x2).bind fun r => K ⟨.v (.one (.d (.int .u64) r)), []⟩
    | _, _ => none
  legit := fun _ _ K _ h => by split at h; exact (legit1 K h :); simp at h
noncomputable def env  (s0 : S0) : FEnv := { P := prog, ct := fun m => none, N := 17, body := f84.body.getD .skip, rvs := [.tmp 2], rts := [47], nin := 0, rmv := [], segs := [sg0 s0] }
def c {β : Type}  (s0 : S0) (a0 : ByteArray) (ret : Int → Option β) : Option β := ((s0 a0 (0 : Int) (0 : Int)).bind ret)
def s0c {β : Type}  (s0 : S0) (x0 : ByteArray) (x1 : Int) (x2 : Int) (ret : Int → Option β) : Option β := (bif (decide (x2 < (8 : Int))) then (bif ((decide ((0 : Int) ≤ x2)) && (decide (x2 < ((ByteArray.size x0) : Int)))) then ((s0 x0 (IntKind.wrap IntKind.u64 ((BitVec.toNat ((BitVec.ofInt (64 : Nat) (IntKind.wrap IntKind.u64 (x1 * (256 : Int)))) ||| (BitVec.ofInt (64 : Nat) (IntKind.wrap IntKind.u64 (bt x0 x2))))) : Int)) (IntKind.wrap IntKind.i64 (x2 + (1 : Int)))).bind ret) else none) else (ret (x1)))
theorem c_bind {β : Type}  {s0 : S0} {a0 : ByteArray} {ret : Int → Option β} : c  s0 a0 ret = (c  s0 a0 some).bind ret := by
  simp only [c, bif_bind, sum_bind, oa, os, on, ofs]
theorem s0c_bind {β : Type}  {s0 : S0} {x0 : ByteArray} {x1 : Int} {x2 : Int} {ret : Int → Option β} : s0c  s0 x0 x1 x2 ret = (s0c  s0 x0 x1 x2 some).bind ret := by
  simp only [s0c, bif_bind, sum_bind, oa, os, on, ofs]
theorem ev  {s0 : S0} {a0 : ByteArray} : evAt (env  s0) [] [0] [.v (.one (.d .str a0))] [] some = c  s0 a0 (fun r => some ⟨.v (.one (.d (.int .u64) r)), []⟩) := by
  kernel_rfl
theorem s0_ev  {s0 : S0} {x0 : ByteArray} {x1 : Int} {x2 : Int} : evAt (env  s0) [4, 1, 0, 1, 1] [0, 3, 5] [.v (.one (.d .str x0)), .v (.one (.d (.int .u64) x1)), .v (.one (.d (.int .i64) x2))] [] some = s0c  s0 x0 x1 x2 (fun r => some ⟨.v (.one (.d (.int .u64) r)), []⟩) := by
  kernel_rfl
def s0 : Nat → ByteArray → Int → Int → Option Int
  | 0, _, _, _ => none
  | k + 1, x0, x1, x2 => s0c  (s0 k) x0 x1 x2 some
def f (k : Nat) (a0 : ByteArray) : Option Int := c  (s0 k) a0 some
theorem is  {s0 : S0} : FnIs (env  s0) 84 f84 := ⟨func84, rfl, rfl, rfl, by decide⟩
theorem envok  {s0 : S0}  : EnvOK (env  s0).toEnv := by
  intro f c h
  simp only [env] at h
  simp at h
noncomputable abbrev E (k : Nat) : FEnv := env  (s0 k)
theorem hE (k : Nat) : EnvOK (E k).toEnv := envok 
theorem segs_ok : ∀ k, ∀ s ∈ (E k).segs, SegOK (E k) f84 s
  | 0 => by
    intro s hs
    simp only [E, env, List.mem_cons, List.not_mem_nil, or_false] at hs
    rcases hs with rfl
    · intro tvs blks res h; exfalso; simp only [sg0] at h; split at h <;> simp [s0] at h
  | k + 1 => by
    intro s hs
    simp only [E, env, List.mem_cons, List.not_mem_nil, or_false] at hs
    rcases hs with rfl
    · refine seg_of_ev (E := E k) (hE k) ⟨is.rvs⟩ (segs_ok k) ?_
      intro tvs blks res h
      simp only [sg0] at h
      split at h
      · exact (s0_ev.trans s0c_bind).trans h
      · simp at h
theorem ok (k : Nat) : CtOK prog 84 (ct (f k)) := by
  refine ct_of_ev (E := E k) is (hE k) (segs_ok k) rfl ?_
  intro tvs blks res h
  simp only [ct] at h
  split at h
  · exact (ev.trans c_bind).trans h
  · simp at h
end keycode_get8
end Go.Proofs.YtddlebbjaadbeaaGreatDoor.Aev
