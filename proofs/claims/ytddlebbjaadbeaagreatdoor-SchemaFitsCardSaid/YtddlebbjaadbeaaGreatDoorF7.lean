/- By a program of this session (AEV): functions of the program as plain functions, and that the machine does what they say. -/
import Derived.Test.YtddlebbjaadbeaaGreatDoorTys
import Derived.Test.YtddlebbjaadbeaaGreatDoorProg
import Derived.Laws.Externs
import Derived.Lib.Bytealg
namespace Go.Proofs.YtddlebbjaadbeaaGreatDoor.Aev
set_option linter.unusedVariables false
set_option linter.unusedSimpArgs false
set_option maxRecDepth 100000
set_option maxHeartbeats 4000000
open Go
/-! ### pack_ReadUint: function 63 -/
abbrev G_pack_ReadUint : Type := ByteArray → Option (Int × ByteArray × Int)
def ct_pack_ReadUint (g : G_pack_ReadUint) : Ct where
  nin := 0
  mv := []
  F := fun tvs blks {β} K => match tvs, blks with
    | [.v (.one (.d .str a0))], [] => (g a0).bind fun r => K ⟨.tup [(.one (.d (.int .u64) r.1)), (.one (.d .str r.2.1)), (.one (.d (.int .i64) r.2.2))], []⟩
    | _, _ => none
  legit := fun tvs blks K r h => by
    split at h
    · obtain ⟨x, hx, hk⟩ := Option.bind_eq_some_iff.1 h
      refine ⟨_, ?_, hk⟩
      simp only [hx, Option.bind_some]
    · simp at h
abbrev S_pack_ReadUint_0 : Type := ByteArray → Int → Int → Bool → Option (Int × ByteArray × Int)
abbrev S_pack_ReadUint_1 : Type := ByteArray → Int → Int → Option (Int × ByteArray × Int)
abbrev S_pack_ReadUint_2 : Type := ByteArray → Int → Int → Option (Int × ByteArray × Int)
abbrev S_pack_ReadUint_3 : Type := ByteArray → Int → Int → Bool → Option (Int × ByteArray × Int)
abbrev S_pack_ReadUint_4 : Type := ByteArray → Int → Int → Option (Int × ByteArray × Int)
def seg_pack_ReadUint_0 (g : S_pack_ReadUint_0) : Seg where
  path := [1, 3, 1, 4, 0, 1, 1, 1, 6, 1]
  prep := []
  keep := [0, 5, 6, 13]
  F := fun tvs blks {β} K => match tvs, blks with
    | [.v (.one (.d .str x0)), .v (.one (.d (.int .u64) x1)), .v (.one (.d (.int .i64) x2)), .v (.one (.d .bool x3))], [] => (g x0 x1 x2 x3).bind fun r => K ⟨.tup [(.one (.d (.int .u64) r.1)), (.one (.d .str r.2.1)), (.one (.d (.int .i64) r.2.2))], []⟩
    | _, _ => none
  legit := fun tvs blks K r h => by
    split at h
    · obtain ⟨x, hx, hk⟩ := Option.bind_eq_some_iff.1 h
      refine ⟨_, ?_, hk⟩
      simp only [hx, Option.bind_some]
    · simp at h
def seg_pack_ReadUint_1 (g : S_pack_ReadUint_1) : Seg where
  path := [1, 1, 1, 1, 6, 1]
  prep := []
  keep := [0, 5, 6]
  F := fun tvs blks {β} K => match tvs, blks with
    | [.v (.one (.d .str x0)), .v (.one (.d (.int .u64) x1)), .v (.one (.d (.int .i64) x2))], [] => (g x0 x1 x2).bind fun r => K ⟨.tup [(.one (.d (.int .u64) r.1)), (.one (.d .str r.2.1)), (.one (.d (.int .i64) r.2.2))], []⟩
    | _, _ => none
  legit := fun tvs blks K r h => by
    split at h
    · obtain ⟨x, hx, hk⟩ := Option.bind_eq_some_iff.1 h
      refine ⟨_, ?_, hk⟩
      simp only [hx, Option.bind_some]
    · simp at h
def seg_pack_ReadUint_2 (g : S_pack_ReadUint_2) : Seg where
  path := [100, 1]
  prep := []
  keep := [0, 5, 6]
  F := fun tvs blks {β} K => match tvs, blks with
    | [.v (.one (.d .str x0)), .v (.one (.d (.int .u64) x1)), .v (.one (.d (.int .i64) x2))], [] => (g x0 x1 x2).bind fun r => K ⟨.tup [(.one (.d (.int .u64) r.1)), (.one (.d .str r.2.1)), (.one (.d (.int .i64) r.2.2))], []⟩
    | _, _ => none
  legit := fun tvs blks K r h => by
    split at h
    · obtain ⟨x, hx, hk⟩ := Option.bind_eq_some_iff.1 h
      refine ⟨_, ?_, hk⟩
      simp only [hx, Option.bind_some]
    · simp at h
def seg_pack_ReadUint_3 (g : S_pack_ReadUint_3) : Seg where
  path := [1, 3, 1, 4, 0, 1, 100, 1]
  prep := []
  keep := [0, 5, 6, 13]
  F := fun tvs blks {β} K => match tvs, blks with
    | [.v (.one (.d .str x0)), .v (.one (.d (.int .u64) x1)), .v (.one (.d (.int .i64) x2)), .v (.one (.d .bool x3))], [] => (g x0 x1 x2 x3).bind fun r => K ⟨.tup [(.one (.d (.int .u64) r.1)), (.one (.d .str r.2.1)), (.one (.d (.int .i64) r.2.2))], []⟩
    | _, _ => none
  legit := fun tvs blks K r h => by
    split at h
    · obtain ⟨x, hx, hk⟩ := Option.bind_eq_some_iff.1 h
      refine ⟨_, ?_, hk⟩
      simp only [hx, Option.bind_some]
    · simp at h
def seg_pack_ReadUint_4 (g : S_pack_ReadUint_4) : Seg where
  path := [1, 1, 100, 1]
  prep := []
  keep := [0, 5, 6]
  F := fun tvs blks {β} K => match tvs, blks with
    | [.v (.one (.d .str x0)), .v (.one (.d (.int .u64) x1)), .v (.one (.d (.int .i64) x2))], [] => (g x0 x1 x2).bind fun r => K ⟨.tup [(.one (.d (.int .u64) r.1)), (.one (.d .str r.2.1)), (.one (.d (.int .i64) r.2.2))], []⟩
    | _, _ => none
  legit := fun tvs blks K r h => by
    split at h
    · obtain ⟨x, hx, hk⟩ := Option.bind_eq_some_iff.1 h
      refine ⟨_, ?_, hk⟩
      simp only [hx, Option.bind_some]
    · simp at h
noncomputable def env_pack_ReadUint  (s0 : S_pack_ReadUint_0) (s1 : S_pack_ReadUint_1) (s2 : S_pack_ReadUint_2) (s3 : S_pack_ReadUint_3) (s4 : S_pack_ReadUint_4) : FEnv := { P := Go.Proofs.Tryz.prog, ct := fun m => none, N := 47, body := Go.Proofs.Tryz.f63.body.getD .skip, rvs := [.tmp 2, .tmp 3, .tmp 4], rts := [47, 9, 29], nin := 0, rmv := [], segs := [seg_pack_ReadUint_0 s0, seg_pack_ReadUint_1 s1, seg_pack_ReadUint_2 s2, seg_pack_ReadUint_3 s3, seg_pack_ReadUint_4 s4] }
def pack_ReadUint.c {β : Type}  (s0 : S_pack_ReadUint_0) (s1 : S_pack_ReadUint_1) (s2 : S_pack_ReadUint_2) (s3 : S_pack_ReadUint_3) (s4 : S_pack_ReadUint_4) (a0 : ByteArray) (ret : (Int × ByteArray × Int) → Option β) : Option β := (bif ((0 : Int) == ((ByteArray.size a0) : Int)) then (ret ((0 : Int), (ByteArray.mk (List.toArray [])), (3 : Int))) else ((s0 a0 (0 : Int) (0 : Int) false).bind ret))
def pack_ReadUint.s0c {β : Type}  (s0 : S_pack_ReadUint_0) (s1 : S_pack_ReadUint_1) (s2 : S_pack_ReadUint_2) (s3 : S_pack_ReadUint_3) (s4 : S_pack_ReadUint_4) (x0 : ByteArray) (x1 : Int) (x2 : Int) (x3 : Bool) (ret : (Int × ByteArray × Int) → Option β) : Option β := (bif x3 then (ret ((0 : Int), (ByteArray.mk (List.toArray [])), (4 : Int))) else ((s1 x0 x1 x2).bind ret))
def pack_ReadUint.s1c {β : Type}  (s0 : S_pack_ReadUint_0) (s1 : S_pack_ReadUint_1) (s2 : S_pack_ReadUint_2) (s3 : S_pack_ReadUint_3) (s4 : S_pack_ReadUint_4) (x0 : ByteArray) (x1 : Int) (x2 : Int) (ret : (Int × ByteArray × Int) → Option β) : Option β := (bif ((decide ((0 : Int) ≤ x2)) && (decide (x2 < ((ByteArray.size x0) : Int)))) then (bif (decide ((0 : Int) ≤ (IntKind.wrap IntKind.i64 ((7 : Int) * x2)))) then (bif (decide ((bt x0 x2) > (127 : Int))) then ((s2 x0 (IntKind.wrap IntKind.u64 ((BitVec.toNat ((BitVec.ofInt (64 : Nat) x1) ||| (BitVec.ofInt (64 : Nat) (IntKind.wrap IntKind.u64 ((IntKind.wrap IntKind.u64 (IntKind.wrap IntKind.u8 ((BitVec.toNat ((BitVec.ofInt (8 : Nat) (bt x0 x2)) &&& (BitVec.ofInt (8 : Nat) (127 : Int)))) : Int))) * ((2 : Int) ^ (Min.min (Int.toNat (IntKind.wrap IntKind.i64 ((7 : Int) * x2))) (64 : Nat)))))))) : Int)) (IntKind.wrap IntKind.i64 (x2 + (1 : Int)))).bind ret) else (bif ((bt x0 x2) == (0 : Int)) then (bif (decide ((IntKind.wrap IntKind.i64 (x2 + (1 : Int))) > (1 : Int))) then (ret ((0 : Int), (ByteArray.mk (List.toArray [])), (4 : Int))) else (bif (((decide ((0 : Int) ≤ (IntKind.wrap IntKind.i64 (x2 + (1 : Int))))) && (decide ((IntKind.wrap IntKind.i64 (x2 + (1 : Int))) ≤ ((ByteArray.size x0) : Int)))) && (decide (((ByteArray.size x0) : Int) ≤ ((ByteArray.size x0) : Int)))) then (ret ((IntKind.wrap IntKind.u64 ((BitVec.toNat ((BitVec.ofInt (64 : Nat) x1) ||| (BitVec.ofInt (64 : Nat) (IntKind.wrap IntKind.u64 ((IntKind.wrap IntKind.u64 (IntKind.wrap IntKind.u8 ((BitVec.toNat ((BitVec.ofInt (8 : Nat) (bt x0 x2)) &&& (BitVec.ofInt (8 : Nat) (127 : Int)))) : Int))) * ((2 : Int) ^ (Min.min (Int.toNat (IntKind.wrap IntKind.i64 ((7 : Int) * x2))) (64 : Nat)))))))) : Int)), (ByteArray.extract x0 (Int.toNat (IntKind.wrap IntKind.i64 (x2 + (1 : Int)))) (Int.toNat ((ByteArray.size x0) : Int))), (0 : Int))) else none)) else (bif (((decide ((0 : Int) ≤ (IntKind.wrap IntKind.i64 (x2 + (1 : Int))))) && (decide ((IntKind.wrap IntKind.i64 (x2 + (1 : Int))) ≤ ((ByteArray.size x0) : Int)))) && (decide (((ByteArray.size x0) : Int) ≤ ((ByteArray.size x0) : Int)))) then (ret ((IntKind.wrap IntKind.u64 ((BitVec.toNat ((BitVec.ofInt (64 : Nat) x1) ||| (BitVec.ofInt (64 : Nat) (IntKind.wrap IntKind.u64 ((IntKind.wrap IntKind.u64 (IntKind.wrap IntKind.u8 ((BitVec.toNat ((BitVec.ofInt (8 : Nat) (bt x0 x2)) &&& (BitVec.ofInt (8 : Nat) (127 : Int)))) : Int))) * ((2 : Int) ^ (Min.min (Int.toNat (IntKind.wrap IntKind.i64 ((7 : Int) * x2))) (64 : Nat)))))))) : Int)), (ByteArray.extract x0 (Int.toNat (IntKind.wrap IntKind.i64 (x2 + (1 : Int)))) (Int.toNat ((ByteArray.size x0) : Int))), (0 : Int))) else none))) else none) else none)
def pack_ReadUint.s2c {β : Type}  (s0 : S_pack_ReadUint_0) (s1 : S_pack_ReadUint_1) (s2 : S_pack_ReadUint_2) (s3 : S_pack_ReadUint_3) (s4 : S_pack_ReadUint_4) (x0 : ByteArray) (x1 : Int) (x2 : Int) (ret : (Int × ByteArray × Int) → Option β) : Option β := (bif (x2 == ((ByteArray.size x0) : Int)) then (ret ((0 : Int), (ByteArray.mk (List.toArray [])), (3 : Int))) else (bif (x2 == (9 : Int)) then (bif ((decide ((0 : Int) ≤ x2)) && (decide (x2 < ((ByteArray.size x0) : Int)))) then ((s3 x0 x1 x2 (decide ((bt x0 x2) > (1 : Int)))).bind ret) else none) else ((s3 x0 x1 x2 false).bind ret)))
def pack_ReadUint.s3c {β : Type}  (s0 : S_pack_ReadUint_0) (s1 : S_pack_ReadUint_1) (s2 : S_pack_ReadUint_2) (s3 : S_pack_ReadUint_3) (s4 : S_pack_ReadUint_4) (x0 : ByteArray) (x1 : Int) (x2 : Int) (x3 : Bool) (ret : (Int × ByteArray × Int) → Option β) : Option β := (bif x3 then (ret ((0 : Int), (ByteArray.mk (List.toArray [])), (4 : Int))) else ((s4 x0 x1 x2).bind ret))
def pack_ReadUint.s4c {β : Type}  (s0 : S_pack_ReadUint_0) (s1 : S_pack_ReadUint_1) (s2 : S_pack_ReadUint_2) (s3 : S_pack_ReadUint_3) (s4 : S_pack_ReadUint_4) (x0 : ByteArray) (x1 : Int) (x2 : Int) (ret : (Int × ByteArray × Int) → Option β) : Option β := (bif ((decide ((0 : Int) ≤ x2)) && (decide (x2 < ((ByteArray.size x0) : Int)))) then (bif (decide ((0 : Int) ≤ (IntKind.wrap IntKind.i64 ((7 : Int) * x2)))) then (bif (decide ((bt x0 x2) > (127 : Int))) then ((s2 x0 (IntKind.wrap IntKind.u64 ((BitVec.toNat ((BitVec.ofInt (64 : Nat) x1) ||| (BitVec.ofInt (64 : Nat) (IntKind.wrap IntKind.u64 ((IntKind.wrap IntKind.u64 (IntKind.wrap IntKind.u8 ((BitVec.toNat ((BitVec.ofInt (8 : Nat) (bt x0 x2)) &&& (BitVec.ofInt (8 : Nat) (127 : Int)))) : Int))) * ((2 : Int) ^ (Min.min (Int.toNat (IntKind.wrap IntKind.i64 ((7 : Int) * x2))) (64 : Nat)))))))) : Int)) (IntKind.wrap IntKind.i64 (x2 + (1 : Int)))).bind ret) else (bif ((bt x0 x2) == (0 : Int)) then (bif (decide ((IntKind.wrap IntKind.i64 (x2 + (1 : Int))) > (1 : Int))) then (ret ((0 : Int), (ByteArray.mk (List.toArray [])), (4 : Int))) else (bif (((decide ((0 : Int) ≤ (IntKind.wrap IntKind.i64 (x2 + (1 : Int))))) && (decide ((IntKind.wrap IntKind.i64 (x2 + (1 : Int))) ≤ ((ByteArray.size x0) : Int)))) && (decide (((ByteArray.size x0) : Int) ≤ ((ByteArray.size x0) : Int)))) then (ret ((IntKind.wrap IntKind.u64 ((BitVec.toNat ((BitVec.ofInt (64 : Nat) x1) ||| (BitVec.ofInt (64 : Nat) (IntKind.wrap IntKind.u64 ((IntKind.wrap IntKind.u64 (IntKind.wrap IntKind.u8 ((BitVec.toNat ((BitVec.ofInt (8 : Nat) (bt x0 x2)) &&& (BitVec.ofInt (8 : Nat) (127 : Int)))) : Int))) * ((2 : Int) ^ (Min.min (Int.toNat (IntKind.wrap IntKind.i64 ((7 : Int) * x2))) (64 : Nat)))))))) : Int)), (ByteArray.extract x0 (Int.toNat (IntKind.wrap IntKind.i64 (x2 + (1 : Int)))) (Int.toNat ((ByteArray.size x0) : Int))), (0 : Int))) else none)) else (bif (((decide ((0 : Int) ≤ (IntKind.wrap IntKind.i64 (x2 + (1 : Int))))) && (decide ((IntKind.wrap IntKind.i64 (x2 + (1 : Int))) ≤ ((ByteArray.size x0) : Int)))) && (decide (((ByteArray.size x0) : Int) ≤ ((ByteArray.size x0) : Int)))) then (ret ((IntKind.wrap IntKind.u64 ((BitVec.toNat ((BitVec.ofInt (64 : Nat) x1) ||| (BitVec.ofInt (64 : Nat) (IntKind.wrap IntKind.u64 ((IntKind.wrap IntKind.u64 (IntKind.wrap IntKind.u8 ((BitVec.toNat ((BitVec.ofInt (8 : Nat) (bt x0 x2)) &&& (BitVec.ofInt (8 : Nat) (127 : Int)))) : Int))) * ((2 : Int) ^ (Min.min (Int.toNat (IntKind.wrap IntKind.i64 ((7 : Int) * x2))) (64 : Nat)))))))) : Int)), (ByteArray.extract x0 (Int.toNat (IntKind.wrap IntKind.i64 (x2 + (1 : Int)))) (Int.toNat ((ByteArray.size x0) : Int))), (0 : Int))) else none))) else none) else none)
theorem pack_ReadUint.c_bind {β : Type}  {s0 : S_pack_ReadUint_0} {s1 : S_pack_ReadUint_1} {s2 : S_pack_ReadUint_2} {s3 : S_pack_ReadUint_3} {s4 : S_pack_ReadUint_4} {a0 : ByteArray} {ret : (Int × ByteArray × Int) → Option β} : pack_ReadUint.c  s0 s1 s2 s3 s4 a0 ret = (pack_ReadUint.c  s0 s1 s2 s3 s4 a0 some).bind ret := by
  simp only [pack_ReadUint.c, bif_bind, sum_bind, Option.bind_assoc, Option.bind_some, Option.bind_none, Option.bind_fun_some]
theorem pack_ReadUint.s0c_bind {β : Type}  {s0 : S_pack_ReadUint_0} {s1 : S_pack_ReadUint_1} {s2 : S_pack_ReadUint_2} {s3 : S_pack_ReadUint_3} {s4 : S_pack_ReadUint_4} {x0 : ByteArray} {x1 : Int} {x2 : Int} {x3 : Bool} {ret : (Int × ByteArray × Int) → Option β} : pack_ReadUint.s0c  s0 s1 s2 s3 s4 x0 x1 x2 x3 ret = (pack_ReadUint.s0c  s0 s1 s2 s3 s4 x0 x1 x2 x3 some).bind ret := by
  simp only [pack_ReadUint.s0c, bif_bind, sum_bind, Option.bind_assoc, Option.bind_some, Option.bind_none, Option.bind_fun_some]
theorem pack_ReadUint.s1c_bind {β : Type}  {s0 : S_pack_ReadUint_0} {s1 : S_pack_ReadUint_1} {s2 : S_pack_ReadUint_2} {s3 : S_pack_ReadUint_3} {s4 : S_pack_ReadUint_4} {x0 : ByteArray} {x1 : Int} {x2 : Int} {ret : (Int × ByteArray × Int) → Option β} : pack_ReadUint.s1c  s0 s1 s2 s3 s4 x0 x1 x2 ret = (pack_ReadUint.s1c  s0 s1 s2 s3 s4 x0 x1 x2 some).bind ret := by
  simp only [pack_ReadUint.s1c, bif_bind, sum_bind, Option.bind_assoc, Option.bind_some, Option.bind_none, Option.bind_fun_some]
theorem pack_ReadUint.s2c_bind {β : Type}  {s0 : S_pack_ReadUint_0} {s1 : S_pack_ReadUint_1} {s2 : S_pack_ReadUint_2} {s3 : S_pack_ReadUint_3} {s4 : S_pack_ReadUint_4} {x0 : ByteArray} {x1 : Int} {x2 : Int} {ret : (Int × ByteArray × Int) → Option β} : pack_ReadUint.s2c  s0 s1 s2 s3 s4 x0 x1 x2 ret = (pack_ReadUint.s2c  s0 s1 s2 s3 s4 x0 x1 x2 some).bind ret := by
  simp only [pack_ReadUint.s2c, bif_bind, sum_bind, Option.bind_assoc, Option.bind_some, Option.bind_none, Option.bind_fun_some]
theorem pack_ReadUint.s3c_bind {β : Type}  {s0 : S_pack_ReadUint_0} {s1 : S_pack_ReadUint_1} {s2 : S_pack_ReadUint_2} {s3 : S_pack_ReadUint_3} {s4 : S_pack_ReadUint_4} {x0 : ByteArray} {x1 : Int} {x2 : Int} {x3 : Bool} {ret : (Int × ByteArray × Int) → Option β} : pack_ReadUint.s3c  s0 s1 s2 s3 s4 x0 x1 x2 x3 ret = (pack_ReadUint.s3c  s0 s1 s2 s3 s4 x0 x1 x2 x3 some).bind ret := by
  simp only [pack_ReadUint.s3c, bif_bind, sum_bind, Option.bind_assoc, Option.bind_some, Option.bind_none, Option.bind_fun_some]
theorem pack_ReadUint.s4c_bind {β : Type}  {s0 : S_pack_ReadUint_0} {s1 : S_pack_ReadUint_1} {s2 : S_pack_ReadUint_2} {s3 : S_pack_ReadUint_3} {s4 : S_pack_ReadUint_4} {x0 : ByteArray} {x1 : Int} {x2 : Int} {ret : (Int × ByteArray × Int) → Option β} : pack_ReadUint.s4c  s0 s1 s2 s3 s4 x0 x1 x2 ret = (pack_ReadUint.s4c  s0 s1 s2 s3 s4 x0 x1 x2 some).bind ret := by
  simp only [pack_ReadUint.s4c, bif_bind, sum_bind, Option.bind_assoc, Option.bind_some, Option.bind_none, Option.bind_fun_some]
theorem pack_ReadUint.ev  {s0 : S_pack_ReadUint_0} {s1 : S_pack_ReadUint_1} {s2 : S_pack_ReadUint_2} {s3 : S_pack_ReadUint_3} {s4 : S_pack_ReadUint_4} {a0 : ByteArray} : evAt (env_pack_ReadUint  s0 s1 s2 s3 s4) [] [0] [.v (.one (.d .str a0))] [] some = pack_ReadUint.c  s0 s1 s2 s3 s4 a0 (fun r => some ⟨.tup [(.one (.d (.int .u64) r.1)), (.one (.d .str r.2.1)), (.one (.d (.int .i64) r.2.2))], []⟩) := by
  kernel_rfl
theorem pack_ReadUint.s0_ev  {s0 : S_pack_ReadUint_0} {s1 : S_pack_ReadUint_1} {s2 : S_pack_ReadUint_2} {s3 : S_pack_ReadUint_3} {s4 : S_pack_ReadUint_4} {x0 : ByteArray} {x1 : Int} {x2 : Int} {x3 : Bool} : evAt (env_pack_ReadUint  s0 s1 s2 s3 s4) [1, 3, 1, 4, 0, 1, 1, 1, 6, 1] [0, 5, 6, 13] [.v (.one (.d .str x0)), .v (.one (.d (.int .u64) x1)), .v (.one (.d (.int .i64) x2)), .v (.one (.d .bool x3))] [] some = pack_ReadUint.s0c  s0 s1 s2 s3 s4 x0 x1 x2 x3 (fun r => some ⟨.tup [(.one (.d (.int .u64) r.1)), (.one (.d .str r.2.1)), (.one (.d (.int .i64) r.2.2))], []⟩) := by
  kernel_rfl
theorem pack_ReadUint.s1_ev  {s0 : S_pack_ReadUint_0} {s1 : S_pack_ReadUint_1} {s2 : S_pack_ReadUint_2} {s3 : S_pack_ReadUint_3} {s4 : S_pack_ReadUint_4} {x0 : ByteArray} {x1 : Int} {x2 : Int} : evAt (env_pack_ReadUint  s0 s1 s2 s3 s4) [1, 1, 1, 1, 6, 1] [0, 5, 6] [.v (.one (.d .str x0)), .v (.one (.d (.int .u64) x1)), .v (.one (.d (.int .i64) x2))] [] some = pack_ReadUint.s1c  s0 s1 s2 s3 s4 x0 x1 x2 (fun r => some ⟨.tup [(.one (.d (.int .u64) r.1)), (.one (.d .str r.2.1)), (.one (.d (.int .i64) r.2.2))], []⟩) := by
  kernel_rfl
theorem pack_ReadUint.s2_ev  {s0 : S_pack_ReadUint_0} {s1 : S_pack_ReadUint_1} {s2 : S_pack_ReadUint_2} {s3 : S_pack_ReadUint_3} {s4 : S_pack_ReadUint_4} {x0 : ByteArray} {x1 : Int} {x2 : Int} : evAt (env_pack_ReadUint  s0 s1 s2 s3 s4) [100, 1] [0, 5, 6] [.v (.one (.d .str x0)), .v (.one (.d (.int .u64) x1)), .v (.one (.d (.int .i64) x2))] [] some = pack_ReadUint.s2c  s0 s1 s2 s3 s4 x0 x1 x2 (fun r => some ⟨.tup [(.one (.d (.int .u64) r.1)), (.one (.d .str r.2.1)), (.one (.d (.int .i64) r.2.2))], []⟩) := by
  kernel_rfl
theorem pack_ReadUint.s3_ev  {s0 : S_pack_ReadUint_0} {s1 : S_pack_ReadUint_1} {s2 : S_pack_ReadUint_2} {s3 : S_pack_ReadUint_3} {s4 : S_pack_ReadUint_4} {x0 : ByteArray} {x1 : Int} {x2 : Int} {x3 : Bool} : evAt (env_pack_ReadUint  s0 s1 s2 s3 s4) [1, 3, 1, 4, 0, 1, 100, 1] [0, 5, 6, 13] [.v (.one (.d .str x0)), .v (.one (.d (.int .u64) x1)), .v (.one (.d (.int .i64) x2)), .v (.one (.d .bool x3))] [] some = pack_ReadUint.s3c  s0 s1 s2 s3 s4 x0 x1 x2 x3 (fun r => some ⟨.tup [(.one (.d (.int .u64) r.1)), (.one (.d .str r.2.1)), (.one (.d (.int .i64) r.2.2))], []⟩) := by
  kernel_rfl
theorem pack_ReadUint.s4_ev  {s0 : S_pack_ReadUint_0} {s1 : S_pack_ReadUint_1} {s2 : S_pack_ReadUint_2} {s3 : S_pack_ReadUint_3} {s4 : S_pack_ReadUint_4} {x0 : ByteArray} {x1 : Int} {x2 : Int} : evAt (env_pack_ReadUint  s0 s1 s2 s3 s4) [1, 1, 100, 1] [0, 5, 6] [.v (.one (.d .str x0)), .v (.one (.d (.int .u64) x1)), .v (.one (.d (.int .i64) x2))] [] some = pack_ReadUint.s4c  s0 s1 s2 s3 s4 x0 x1 x2 (fun r => some ⟨.tup [(.one (.d (.int .u64) r.1)), (.one (.d .str r.2.1)), (.one (.d (.int .i64) r.2.2))], []⟩) := by
  kernel_rfl
mutual
def pack_ReadUint.s0 : Nat → ByteArray → Int → Int → Bool → Option (Int × ByteArray × Int)
  | 0, _, _, _, _ => none
  | k + 1, x0, x1, x2, x3 => pack_ReadUint.s0c  (pack_ReadUint.s0 k) (pack_ReadUint.s1 k) (pack_ReadUint.s2 k) (pack_ReadUint.s3 k) (pack_ReadUint.s4 k) x0 x1 x2 x3 some
def pack_ReadUint.s1 : Nat → ByteArray → Int → Int → Option (Int × ByteArray × Int)
  | 0, _, _, _ => none
  | k + 1, x0, x1, x2 => pack_ReadUint.s1c  (pack_ReadUint.s0 k) (pack_ReadUint.s1 k) (pack_ReadUint.s2 k) (pack_ReadUint.s3 k) (pack_ReadUint.s4 k) x0 x1 x2 some
def pack_ReadUint.s2 : Nat → ByteArray → Int → Int → Option (Int × ByteArray × Int)
  | 0, _, _, _ => none
  | k + 1, x0, x1, x2 => pack_ReadUint.s2c  (pack_ReadUint.s0 k) (pack_ReadUint.s1 k) (pack_ReadUint.s2 k) (pack_ReadUint.s3 k) (pack_ReadUint.s4 k) x0 x1 x2 some
def pack_ReadUint.s3 : Nat → ByteArray → Int → Int → Bool → Option (Int × ByteArray × Int)
  | 0, _, _, _, _ => none
  | k + 1, x0, x1, x2, x3 => pack_ReadUint.s3c  (pack_ReadUint.s0 k) (pack_ReadUint.s1 k) (pack_ReadUint.s2 k) (pack_ReadUint.s3 k) (pack_ReadUint.s4 k) x0 x1 x2 x3 some
def pack_ReadUint.s4 : Nat → ByteArray → Int → Int → Option (Int × ByteArray × Int)
  | 0, _, _, _ => none
  | k + 1, x0, x1, x2 => pack_ReadUint.s4c  (pack_ReadUint.s0 k) (pack_ReadUint.s1 k) (pack_ReadUint.s2 k) (pack_ReadUint.s3 k) (pack_ReadUint.s4 k) x0 x1 x2 some
end
def pack_ReadUint.f (k : Nat) (a0 : ByteArray) : Option (Int × ByteArray × Int) := pack_ReadUint.c  (pack_ReadUint.s0 k) (pack_ReadUint.s1 k) (pack_ReadUint.s2 k) (pack_ReadUint.s3 k) (pack_ReadUint.s4 k) a0 some
theorem pack_ReadUint.is  {s0 : S_pack_ReadUint_0} {s1 : S_pack_ReadUint_1} {s2 : S_pack_ReadUint_2} {s3 : S_pack_ReadUint_3} {s4 : S_pack_ReadUint_4} : FnIs (env_pack_ReadUint  s0 s1 s2 s3 s4) 63 Go.Proofs.Tryz.f63 := ⟨Go.Proofs.Tryz.func63, rfl, rfl, rfl, by decide⟩
theorem pack_ReadUint.envok  {s0 : S_pack_ReadUint_0} {s1 : S_pack_ReadUint_1} {s2 : S_pack_ReadUint_2} {s3 : S_pack_ReadUint_3} {s4 : S_pack_ReadUint_4}  : EnvOK (env_pack_ReadUint  s0 s1 s2 s3 s4).toEnv := by
  intro f c h
  simp only [env_pack_ReadUint] at h
  simp at h
noncomputable abbrev pack_ReadUint.E (k : Nat) : FEnv := env_pack_ReadUint  (pack_ReadUint.s0 k) (pack_ReadUint.s1 k) (pack_ReadUint.s2 k) (pack_ReadUint.s3 k) (pack_ReadUint.s4 k)
theorem pack_ReadUint.hE (k : Nat) : EnvOK (pack_ReadUint.E k).toEnv := pack_ReadUint.envok 
theorem pack_ReadUint.segs_ok : ∀ k, ∀ s ∈ (pack_ReadUint.E k).segs, SegOK (pack_ReadUint.E k) Go.Proofs.Tryz.f63 s
  | 0 => by
    intro s hs
    simp only [pack_ReadUint.E, env_pack_ReadUint, List.mem_cons, List.not_mem_nil, or_false] at hs
    rcases hs with rfl | rfl | rfl | rfl | rfl
    · intro tvs blks res h; exfalso; simp only [seg_pack_ReadUint_0] at h; split at h <;> simp [pack_ReadUint.s0] at h
    · intro tvs blks res h; exfalso; simp only [seg_pack_ReadUint_1] at h; split at h <;> simp [pack_ReadUint.s1] at h
    · intro tvs blks res h; exfalso; simp only [seg_pack_ReadUint_2] at h; split at h <;> simp [pack_ReadUint.s2] at h
    · intro tvs blks res h; exfalso; simp only [seg_pack_ReadUint_3] at h; split at h <;> simp [pack_ReadUint.s3] at h
    · intro tvs blks res h; exfalso; simp only [seg_pack_ReadUint_4] at h; split at h <;> simp [pack_ReadUint.s4] at h
  | k + 1 => by
    intro s hs
    simp only [pack_ReadUint.E, env_pack_ReadUint, List.mem_cons, List.not_mem_nil, or_false] at hs
    rcases hs with rfl | rfl | rfl | rfl | rfl
    · refine seg_of_ev (E := pack_ReadUint.E k) (pack_ReadUint.hE k) ⟨pack_ReadUint.is.rvs⟩ (pack_ReadUint.segs_ok k) ?_
      intro tvs blks res h
      simp only [seg_pack_ReadUint_0] at h
      split at h
      · exact (pack_ReadUint.s0_ev.trans pack_ReadUint.s0c_bind).trans h
      · simp at h
    · refine seg_of_ev (E := pack_ReadUint.E k) (pack_ReadUint.hE k) ⟨pack_ReadUint.is.rvs⟩ (pack_ReadUint.segs_ok k) ?_
      intro tvs blks res h
      simp only [seg_pack_ReadUint_1] at h
      split at h
      · exact (pack_ReadUint.s1_ev.trans pack_ReadUint.s1c_bind).trans h
      · simp at h
    · refine seg_of_ev (E := pack_ReadUint.E k) (pack_ReadUint.hE k) ⟨pack_ReadUint.is.rvs⟩ (pack_ReadUint.segs_ok k) ?_
      intro tvs blks res h
      simp only [seg_pack_ReadUint_2] at h
      split at h
      · exact (pack_ReadUint.s2_ev.trans pack_ReadUint.s2c_bind).trans h
      · simp at h
    · refine seg_of_ev (E := pack_ReadUint.E k) (pack_ReadUint.hE k) ⟨pack_ReadUint.is.rvs⟩ (pack_ReadUint.segs_ok k) ?_
      intro tvs blks res h
      simp only [seg_pack_ReadUint_3] at h
      split at h
      · exact (pack_ReadUint.s3_ev.trans pack_ReadUint.s3c_bind).trans h
      · simp at h
    · refine seg_of_ev (E := pack_ReadUint.E k) (pack_ReadUint.hE k) ⟨pack_ReadUint.is.rvs⟩ (pack_ReadUint.segs_ok k) ?_
      intro tvs blks res h
      simp only [seg_pack_ReadUint_4] at h
      split at h
      · exact (pack_ReadUint.s4_ev.trans pack_ReadUint.s4c_bind).trans h
      · simp at h
theorem pack_ReadUint.ok (k : Nat) : CtOK Go.Proofs.Tryz.prog 63 (ct_pack_ReadUint (pack_ReadUint.f k)) := by
  refine ct_of_ev (E := pack_ReadUint.E k) pack_ReadUint.is (pack_ReadUint.hE k) (pack_ReadUint.segs_ok k) rfl ?_
  intro tvs blks res h
  simp only [ct_pack_ReadUint] at h
  split at h
  · exact (pack_ReadUint.ev.trans pack_ReadUint.c_bind).trans h
  · simp at h

/-! ### pack_ReadText: function 62 -/
abbrev G_pack_ReadText : Type := ByteArray → Option (ByteArray × ByteArray × Int)
def ct_pack_ReadText (g : G_pack_ReadText) : Ct where
  nin := 0
  mv := []
  F := fun tvs blks {β} K => match tvs, blks with
    | [.v (.one (.d .str a0))], [] => (g a0).bind fun r => K ⟨.tup [(.one (.d .str r.1)), (.one (.d .str r.2.1)), (.one (.d (.int .i64) r.2.2))], []⟩
    | _, _ => none
  legit := fun tvs blks K r h => by
    split at h
    · obtain ⟨x, hx, hk⟩ := Option.bind_eq_some_iff.1 h
      refine ⟨_, ?_, hk⟩
      simp only [hx, Option.bind_some]
    · simp at h
noncomputable def env_pack_ReadText (g63 : G_pack_ReadUint)  : FEnv := { P := Go.Proofs.Tryz.prog, ct := fun m => if m = 63 then some (ct_pack_ReadUint g63) else none, N := 30, body := Go.Proofs.Tryz.f62.body.getD .skip, rvs := [.tmp 2, .tmp 3, .tmp 4], rts := [9, 9, 29], nin := 0, rmv := [], segs := [] }
def pack_ReadText.c {β : Type} (g63 : G_pack_ReadUint)  (a0 : ByteArray) (ret : (ByteArray × ByteArray × Int) → Option β) : Option β := ((g63 a0).bind fun r0 => (bif (r0.2.2 != (0 : Int)) then (ret ((ByteArray.mk (List.toArray [])), (ByteArray.mk (List.toArray [])), r0.2.2)) else (bif (decide (r0.1 > (IntKind.wrap IntKind.u64 ((ByteArray.size r0.2.1) : Int)))) then (ret ((ByteArray.mk (List.toArray [])), (ByteArray.mk (List.toArray [])), (3 : Int))) else (bif ((true && (decide ((0 : Int) ≤ r0.1))) && (decide (r0.1 ≤ ((ByteArray.size r0.2.1) : Int)))) then (bif (((decide ((0 : Int) ≤ r0.1)) && (decide (r0.1 ≤ ((ByteArray.size r0.2.1) : Int)))) && (decide (((ByteArray.size r0.2.1) : Int) ≤ ((ByteArray.size r0.2.1) : Int)))) then (ret ((ByteArray.extract r0.2.1 (0 : Nat) (Int.toNat r0.1)), (ByteArray.extract r0.2.1 (Int.toNat r0.1) (Int.toNat ((ByteArray.size r0.2.1) : Int))), (0 : Int))) else none) else none))))
theorem pack_ReadText.c_bind {β : Type} {g63 : G_pack_ReadUint}  {a0 : ByteArray} {ret : (ByteArray × ByteArray × Int) → Option β} : pack_ReadText.c g63  a0 ret = (pack_ReadText.c g63  a0 some).bind ret := by
  simp only [pack_ReadText.c, bif_bind, sum_bind, Option.bind_assoc, Option.bind_some, Option.bind_none, Option.bind_fun_some]
theorem pack_ReadText.ev {g63 : G_pack_ReadUint}  {a0 : ByteArray} : evAt (env_pack_ReadText g63 ) [] [0] [.v (.one (.d .str a0))] [] some = pack_ReadText.c g63  a0 (fun r => some ⟨.tup [(.one (.d .str r.1)), (.one (.d .str r.2.1)), (.one (.d (.int .i64) r.2.2))], []⟩) := by
  kernel_rfl
def pack_ReadText.f (k : Nat) (a0 : ByteArray) : Option (ByteArray × ByteArray × Int) := pack_ReadText.c (pack_ReadUint.f k)  a0 some
theorem pack_ReadText.is {g63 : G_pack_ReadUint}  : FnIs (env_pack_ReadText g63 ) 62 Go.Proofs.Tryz.f62 := ⟨Go.Proofs.Tryz.func62, rfl, rfl, rfl, by decide⟩
theorem pack_ReadText.envok {g63 : G_pack_ReadUint}  (h63 : CtOK Go.Proofs.Tryz.prog 63 (ct_pack_ReadUint g63)) : EnvOK (env_pack_ReadText g63 ).toEnv := by
  intro f c h
  simp only [env_pack_ReadText] at h
  split at h
  · rename_i e; subst e; cases h; exact h63
  simp at h
noncomputable abbrev pack_ReadText.E (k : Nat) : FEnv := env_pack_ReadText (pack_ReadUint.f k) 
theorem pack_ReadText.hE (k : Nat) : EnvOK (pack_ReadText.E k).toEnv := pack_ReadText.envok (pack_ReadUint.ok k)
theorem pack_ReadText.ok (k : Nat) : CtOK Go.Proofs.Tryz.prog 62 (ct_pack_ReadText (pack_ReadText.f k)) := by
  refine ct_of_ev (E := pack_ReadText.E k) pack_ReadText.is (pack_ReadText.hE k) (fun s hs => by simp [pack_ReadText.E, env_pack_ReadText] at hs) rfl ?_
  intro tvs blks res h
  simp only [ct_pack_ReadText] at h
  split at h
  · exact (pack_ReadText.ev.trans pack_ReadText.c_bind).trans h
  · simp at h

/-! ### schema_reader_text: function 36 -/
abbrev G_schema_reader_text : Type := ByteArray → Int → Option (ByteArray × ByteArray × Int)
def ct_schema_reader_text (g : G_schema_reader_text) : Ct where
  nin := 1
  mv := []
  F := fun tvs blks {β} K => match tvs, blks with
    | [.v (.one (.ptr 0 0))], [.box [(.d .str a0), (.d (.int .i64) a1)]] => (g a0 a1).bind fun r => K ⟨.v (.one (.d .str r.1)), [some (.box [(.d .str r.2.1), (.d (.int .i64) r.2.2)])]⟩
    | _, _ => none
  legit := fun tvs blks K r h => by
    split at h
    · obtain ⟨x, hx, hk⟩ := Option.bind_eq_some_iff.1 h
      refine ⟨_, ?_, hk⟩
      simp only [hx, Option.bind_some]
    · simp at h
noncomputable def env_schema_reader_text (g62 : G_pack_ReadText)  : FEnv := { P := Go.Proofs.Tryz.prog, ct := fun m => if m = 62 then some (ct_pack_ReadText g62) else none, N := 29, body := Go.Proofs.Tryz.f36.body.getD .skip, rvs := [.tmp 2], rts := [9], nin := 1, rmv := [], segs := [] }
def schema_reader_text.c {β : Type} (g62 : G_pack_ReadText)  (a0 : ByteArray) (a1 : Int) (ret : (ByteArray × ByteArray × Int) → Option β) : Option β := (bif (a1 != (0 : Int)) then (ret ((ByteArray.mk (List.toArray [])), a0, a1)) else ((g62 a0).bind fun r0 => (ret (r0.1, r0.2.1, r0.2.2))))
theorem schema_reader_text.c_bind {β : Type} {g62 : G_pack_ReadText}  {a0 : ByteArray} {a1 : Int} {ret : (ByteArray × ByteArray × Int) → Option β} : schema_reader_text.c g62  a0 a1 ret = (schema_reader_text.c g62  a0 a1 some).bind ret := by
  simp only [schema_reader_text.c, bif_bind, sum_bind, Option.bind_assoc, Option.bind_some, Option.bind_none, Option.bind_fun_some]
theorem schema_reader_text.ev {g62 : G_pack_ReadText}  {a0 : ByteArray} {a1 : Int} : evAt (env_schema_reader_text g62 ) [] [0] [.v (.one (.ptr 0 0))] [some (.box [(.d .str a0), (.d (.int .i64) a1)])] some = schema_reader_text.c g62  a0 a1 (fun r => some ⟨.v (.one (.d .str r.1)), [some (.box [(.d .str r.2.1), (.d (.int .i64) r.2.2)])]⟩) := by
  kernel_rfl
def schema_reader_text.f (k : Nat) (a0 : ByteArray) (a1 : Int) : Option (ByteArray × ByteArray × Int) := schema_reader_text.c (pack_ReadText.f k)  a0 a1 some
theorem schema_reader_text.is {g62 : G_pack_ReadText}  : FnIs (env_schema_reader_text g62 ) 36 Go.Proofs.Tryz.f36 := ⟨Go.Proofs.Tryz.func36, rfl, rfl, rfl, by decide⟩
theorem schema_reader_text.envok {g62 : G_pack_ReadText}  (h62 : CtOK Go.Proofs.Tryz.prog 62 (ct_pack_ReadText g62)) : EnvOK (env_schema_reader_text g62 ).toEnv := by
  intro f c h
  simp only [env_schema_reader_text] at h
  split at h
  · rename_i e; subst e; cases h; exact h62
  simp at h
noncomputable abbrev schema_reader_text.E (k : Nat) : FEnv := env_schema_reader_text (pack_ReadText.f k) 
theorem schema_reader_text.hE (k : Nat) : EnvOK (schema_reader_text.E k).toEnv := schema_reader_text.envok (pack_ReadText.ok k)
theorem schema_reader_text.ok (k : Nat) : CtOK Go.Proofs.Tryz.prog 36 (ct_schema_reader_text (schema_reader_text.f k)) := by
  refine ct_of_ev (E := schema_reader_text.E k) schema_reader_text.is (schema_reader_text.hE k) (fun s hs => by simp [schema_reader_text.E, env_schema_reader_text] at hs) rfl ?_
  intro tvs blks res h
  simp only [ct_schema_reader_text] at h
  split at h
  · exact (schema_reader_text.ev.trans schema_reader_text.c_bind).trans h
  · simp at h

/-! ### schema_reader_fail: function 40 -/
abbrev G_schema_reader_fail : Type := Int → ByteArray → Int → Option (ByteArray × Int)
def ct_schema_reader_fail (g : G_schema_reader_fail) : Ct where
  nin := 1
  mv := []
  F := fun tvs blks {β} K => match tvs, blks with
    | [.v (.one (.ptr 0 0)), .v (.one (.d (.int .i64) a0))], [.box [(.d .str a1), (.d (.int .i64) a2)]] => (g a0 a1 a2).bind fun r => K ⟨.tup [], [some (.box [(.d .str r.1), (.d (.int .i64) r.2)])]⟩
    | _, _ => none
  legit := fun tvs blks K r h => by
    split at h
    · obtain ⟨x, hx, hk⟩ := Option.bind_eq_some_iff.1 h
      refine ⟨_, ?_, hk⟩
      simp only [hx, Option.bind_some]
    · simp at h
noncomputable def env_schema_reader_fail   : FEnv := { P := Go.Proofs.Tryz.prog, ct := fun m => none, N := 13, body := Go.Proofs.Tryz.f40.body.getD .skip, rvs := [], rts := [], nin := 1, rmv := [], segs := [] }
def schema_reader_fail.c {β : Type}   (a0 : Int) (a1 : ByteArray) (a2 : Int) (ret : (ByteArray × Int) → Option β) : Option β := (bif (a2 == (0 : Int)) then (ret (a1, a0)) else (ret (a1, a2)))
theorem schema_reader_fail.c_bind {β : Type}   {a0 : Int} {a1 : ByteArray} {a2 : Int} {ret : (ByteArray × Int) → Option β} : schema_reader_fail.c   a0 a1 a2 ret = (schema_reader_fail.c   a0 a1 a2 some).bind ret := by
  simp only [schema_reader_fail.c, bif_bind, sum_bind, Option.bind_assoc, Option.bind_some, Option.bind_none, Option.bind_fun_some]
theorem schema_reader_fail.ev   {a0 : Int} {a1 : ByteArray} {a2 : Int} : evAt (env_schema_reader_fail  ) [] [0, 1] [.v (.one (.ptr 0 0)), .v (.one (.d (.int .i64) a0))] [some (.box [(.d .str a1), (.d (.int .i64) a2)])] some = schema_reader_fail.c   a0 a1 a2 (fun r => some ⟨.tup [], [some (.box [(.d .str r.1), (.d (.int .i64) r.2)])]⟩) := by
  kernel_rfl
def schema_reader_fail.f (k : Nat) (a0 : Int) (a1 : ByteArray) (a2 : Int) : Option (ByteArray × Int) := schema_reader_fail.c   a0 a1 a2 some
theorem schema_reader_fail.is   : FnIs (env_schema_reader_fail  ) 40 Go.Proofs.Tryz.f40 := ⟨Go.Proofs.Tryz.func40, rfl, rfl, rfl, by decide⟩
theorem schema_reader_fail.envok    : EnvOK (env_schema_reader_fail  ).toEnv := by
  intro f c h
  simp only [env_schema_reader_fail] at h
  simp at h
noncomputable abbrev schema_reader_fail.E (k : Nat) : FEnv := env_schema_reader_fail  
theorem schema_reader_fail.hE (k : Nat) : EnvOK (schema_reader_fail.E k).toEnv := schema_reader_fail.envok 
theorem schema_reader_fail.ok (k : Nat) : CtOK Go.Proofs.Tryz.prog 40 (ct_schema_reader_fail (schema_reader_fail.f k)) := by
  refine ct_of_ev (E := schema_reader_fail.E k) schema_reader_fail.is (schema_reader_fail.hE k) (fun s hs => by simp [schema_reader_fail.E, env_schema_reader_fail] at hs) rfl ?_
  intro tvs blks res h
  simp only [ct_schema_reader_fail] at h
  split at h
  · exact (schema_reader_fail.ev.trans schema_reader_fail.c_bind).trans h
  · simp at h

/-! ### schema_reader_uint: function 37 -/
abbrev G_schema_reader_uint : Type := Int → Int → ByteArray → Int → Option (Int × ByteArray × Int)
def ct_schema_reader_uint (g : G_schema_reader_uint) : Ct where
  nin := 1
  mv := []
  F := fun tvs blks {β} K => match tvs, blks with
    | [.v (.one (.ptr 0 0)), .v (.one (.d (.int .u64) a0)), .v (.one (.d (.int .i64) a1))], [.box [(.d .str a2), (.d (.int .i64) a3)]] => (g a0 a1 a2 a3).bind fun r => K ⟨.v (.one (.d (.int .i64) r.1)), [some (.box [(.d .str r.2.1), (.d (.int .i64) r.2.2)])]⟩
    | _, _ => none
  legit := fun tvs blks K r h => by
    split at h
    · obtain ⟨x, hx, hk⟩ := Option.bind_eq_some_iff.1 h
      refine ⟨_, ?_, hk⟩
      simp only [hx, Option.bind_some]
    · simp at h
noncomputable def env_schema_reader_uint (g40 : G_schema_reader_fail) (g63 : G_pack_ReadUint)  : FEnv := { P := Go.Proofs.Tryz.prog, ct := fun m => if m = 40 then some (ct_schema_reader_fail g40) else if m = 63 then some (ct_pack_ReadUint g63) else none, N := 40, body := Go.Proofs.Tryz.f37.body.getD .skip, rvs := [.tmp 6], rts := [3], nin := 1, rmv := [], segs := [] }
def schema_reader_uint.c {β : Type} (g40 : G_schema_reader_fail) (g63 : G_pack_ReadUint)  (a0 : Int) (a1 : Int) (a2 : ByteArray) (a3 : Int) (ret : (Int × ByteArray × Int) → Option β) : Option β := (bif (a3 != (0 : Int)) then (ret ((0 : Int), a2, a3)) else ((g63 a2).bind fun r0 => (bif (decide (r0.1 > a0)) then ((g40 a1 r0.2.1 r0.2.2).bind fun r1 => (ret ((0 : Int), r1.1, r1.2))) else (ret ((IntKind.wrap IntKind.i64 r0.1), r0.2.1, r0.2.2)))))
theorem schema_reader_uint.c_bind {β : Type} {g40 : G_schema_reader_fail} {g63 : G_pack_ReadUint}  {a0 : Int} {a1 : Int} {a2 : ByteArray} {a3 : Int} {ret : (Int × ByteArray × Int) → Option β} : schema_reader_uint.c g40 g63  a0 a1 a2 a3 ret = (schema_reader_uint.c g40 g63  a0 a1 a2 a3 some).bind ret := by
  simp only [schema_reader_uint.c, bif_bind, sum_bind, Option.bind_assoc, Option.bind_some, Option.bind_none, Option.bind_fun_some]
theorem schema_reader_uint.ev {g40 : G_schema_reader_fail} {g63 : G_pack_ReadUint}  {a0 : Int} {a1 : Int} {a2 : ByteArray} {a3 : Int} : evAt (env_schema_reader_uint g40 g63 ) [] [0, 1, 2] [.v (.one (.ptr 0 0)), .v (.one (.d (.int .u64) a0)), .v (.one (.d (.int .i64) a1))] [some (.box [(.d .str a2), (.d (.int .i64) a3)])] some = schema_reader_uint.c g40 g63  a0 a1 a2 a3 (fun r => some ⟨.v (.one (.d (.int .i64) r.1)), [some (.box [(.d .str r.2.1), (.d (.int .i64) r.2.2)])]⟩) := by
  kernel_rfl
def schema_reader_uint.f (k : Nat) (a0 : Int) (a1 : Int) (a2 : ByteArray) (a3 : Int) : Option (Int × ByteArray × Int) := schema_reader_uint.c (schema_reader_fail.f k) (pack_ReadUint.f k)  a0 a1 a2 a3 some
theorem schema_reader_uint.is {g40 : G_schema_reader_fail} {g63 : G_pack_ReadUint}  : FnIs (env_schema_reader_uint g40 g63 ) 37 Go.Proofs.Tryz.f37 := ⟨Go.Proofs.Tryz.func37, rfl, rfl, rfl, by decide⟩
theorem schema_reader_uint.envok {g40 : G_schema_reader_fail} {g63 : G_pack_ReadUint}  (h40 : CtOK Go.Proofs.Tryz.prog 40 (ct_schema_reader_fail g40)) (h63 : CtOK Go.Proofs.Tryz.prog 63 (ct_pack_ReadUint g63)) : EnvOK (env_schema_reader_uint g40 g63 ).toEnv := by
  intro f c h
  simp only [env_schema_reader_uint] at h
  split at h
  · rename_i e; subst e; cases h; exact h40
  split at h
  · rename_i e; subst e; cases h; exact h63
  simp at h
noncomputable abbrev schema_reader_uint.E (k : Nat) : FEnv := env_schema_reader_uint (schema_reader_fail.f k) (pack_ReadUint.f k) 
theorem schema_reader_uint.hE (k : Nat) : EnvOK (schema_reader_uint.E k).toEnv := schema_reader_uint.envok (schema_reader_fail.ok k) (pack_ReadUint.ok k)
theorem schema_reader_uint.ok (k : Nat) : CtOK Go.Proofs.Tryz.prog 37 (ct_schema_reader_uint (schema_reader_uint.f k)) := by
  refine ct_of_ev (E := schema_reader_uint.E k) schema_reader_uint.is (schema_reader_uint.hE k) (fun s hs => by simp [schema_reader_uint.E, env_schema_reader_uint] at hs) rfl ?_
  intro tvs blks res h
  simp only [ct_schema_reader_uint] at h
  split at h
  · exact (schema_reader_uint.ev.trans schema_reader_uint.c_bind).trans h
  · simp at h

/-! ### schema_reader_flag: function 38 -/
abbrev G_schema_reader_flag : Type := ByteArray → Int → Option (Bool × ByteArray × Int)
def ct_schema_reader_flag (g : G_schema_reader_flag) : Ct where
  nin := 1
  mv := []
  F := fun tvs blks {β} K => match tvs, blks with
    | [.v (.one (.ptr 0 0))], [.box [(.d .str a0), (.d (.int .i64) a1)]] => (g a0 a1).bind fun r => K ⟨.v (.one (.d .bool r.1)), [some (.box [(.d .str r.2.1), (.d (.int .i64) r.2.2)])]⟩
    | _, _ => none
  legit := fun tvs blks K r h => by
    split at h
    · obtain ⟨x, hx, hk⟩ := Option.bind_eq_some_iff.1 h
      refine ⟨_, ?_, hk⟩
      simp only [hx, Option.bind_some]
    · simp at h
noncomputable def env_schema_reader_flag (g40 : G_schema_reader_fail)  : FEnv := { P := Go.Proofs.Tryz.prog, ct := fun m => if m = 40 then some (ct_schema_reader_fail g40) else none, N := 42, body := Go.Proofs.Tryz.f38.body.getD .skip, rvs := [.tmp 2], rts := [4], nin := 1, rmv := [], segs := [] }
def schema_reader_flag.c {β : Type} (g40 : G_schema_reader_fail)  (a0 : ByteArray) (a1 : Int) (ret : (Bool × ByteArray × Int) → Option β) : Option β := (bif (a1 != (0 : Int)) then (ret (false, a0, a1)) else (bif ((ByteArray.toList a0) == (ByteArray.toList (ByteArray.mk (List.toArray [])))) then ((g40 (3 : Int) a0 a1).bind fun r0 => (ret (false, r0.1, r0.2))) else (bif (true && (decide ((0 : Int) < ((ByteArray.size a0) : Int)))) then (bif (decide ((bt a0 (0 : Int)) > (1 : Int))) then ((g40 (4 : Int) a0 a1).bind fun r1 => (ret (false, r1.1, r1.2))) else (bif (true && (decide ((0 : Int) < ((ByteArray.size a0) : Int)))) then (bif ((true && (decide ((1 : Int) ≤ ((ByteArray.size a0) : Int)))) && (decide (((ByteArray.size a0) : Int) ≤ ((ByteArray.size a0) : Int)))) then (ret (((bt a0 (0 : Int)) == (1 : Int)), (ByteArray.extract a0 (1 : Nat) (Int.toNat ((ByteArray.size a0) : Int))), a1)) else none) else none)) else none)))
theorem schema_reader_flag.c_bind {β : Type} {g40 : G_schema_reader_fail}  {a0 : ByteArray} {a1 : Int} {ret : (Bool × ByteArray × Int) → Option β} : schema_reader_flag.c g40  a0 a1 ret = (schema_reader_flag.c g40  a0 a1 some).bind ret := by
  simp only [schema_reader_flag.c, bif_bind, sum_bind, Option.bind_assoc, Option.bind_some, Option.bind_none, Option.bind_fun_some]
theorem schema_reader_flag.ev {g40 : G_schema_reader_fail}  {a0 : ByteArray} {a1 : Int} : evAt (env_schema_reader_flag g40 ) [] [0] [.v (.one (.ptr 0 0))] [some (.box [(.d .str a0), (.d (.int .i64) a1)])] some = schema_reader_flag.c g40  a0 a1 (fun r => some ⟨.v (.one (.d .bool r.1)), [some (.box [(.d .str r.2.1), (.d (.int .i64) r.2.2)])]⟩) := by
  kernel_rfl
def schema_reader_flag.f (k : Nat) (a0 : ByteArray) (a1 : Int) : Option (Bool × ByteArray × Int) := schema_reader_flag.c (schema_reader_fail.f k)  a0 a1 some
theorem schema_reader_flag.is {g40 : G_schema_reader_fail}  : FnIs (env_schema_reader_flag g40 ) 38 Go.Proofs.Tryz.f38 := ⟨Go.Proofs.Tryz.func38, rfl, rfl, rfl, by decide⟩
theorem schema_reader_flag.envok {g40 : G_schema_reader_fail}  (h40 : CtOK Go.Proofs.Tryz.prog 40 (ct_schema_reader_fail g40)) : EnvOK (env_schema_reader_flag g40 ).toEnv := by
  intro f c h
  simp only [env_schema_reader_flag] at h
  split at h
  · rename_i e; subst e; cases h; exact h40
  simp at h
noncomputable abbrev schema_reader_flag.E (k : Nat) : FEnv := env_schema_reader_flag (schema_reader_fail.f k) 
theorem schema_reader_flag.hE (k : Nat) : EnvOK (schema_reader_flag.E k).toEnv := schema_reader_flag.envok (schema_reader_fail.ok k)
theorem schema_reader_flag.ok (k : Nat) : CtOK Go.Proofs.Tryz.prog 38 (ct_schema_reader_flag (schema_reader_flag.f k)) := by
  refine ct_of_ev (E := schema_reader_flag.E k) schema_reader_flag.is (schema_reader_flag.hE k) (fun s hs => by simp [schema_reader_flag.E, env_schema_reader_flag] at hs) rfl ?_
  intro tvs blks res h
  simp only [ct_schema_reader_flag] at h
  split at h
  · exact (schema_reader_flag.ev.trans schema_reader_flag.c_bind).trans h
  · simp at h

/-! ### keycode_need: function 83 -/
abbrev G_keycode_need : Type := Int → Option Int
def ct_keycode_need (g : G_keycode_need) : Ct where
  nin := 0
  mv := []
  F := fun tvs blks {β} K => match tvs, blks with
    | [.v (.one (.d (.int .i64) a0))], [] => (g a0).bind fun r => K ⟨.v (.one (.d (.int .i64) r)), []⟩
    | _, _ => none
  legit := fun tvs blks K r h => by
    split at h
    · obtain ⟨x, hx, hk⟩ := Option.bind_eq_some_iff.1 h
      refine ⟨_, ?_, hk⟩
      simp only [hx, Option.bind_some]
    · simp at h
noncomputable def env_keycode_need   : FEnv := { P := Go.Proofs.Tryz.prog, ct := fun m => none, N := 9, body := Go.Proofs.Tryz.f83.body.getD .skip, rvs := [.tmp 2], rts := [3], nin := 0, rmv := [], segs := [] }
def keycode_need.c {β : Type}   (a0 : Int) (ret : Int → Option β) : Option β := (bif (a0 == (1 : Int)) then (ret ((1 : Int))) else (bif (a0 == (2 : Int)) then (bif (a0 == (2 : Int)) then (ret ((8 : Int))) else (ret ((0 : Int)))) else (bif (a0 == (3 : Int)) then (ret ((8 : Int))) else (ret ((0 : Int))))))
theorem keycode_need.c_bind {β : Type}   {a0 : Int} {ret : Int → Option β} : keycode_need.c   a0 ret = (keycode_need.c   a0 some).bind ret := by
  simp only [keycode_need.c, bif_bind, sum_bind, Option.bind_assoc, Option.bind_some, Option.bind_none, Option.bind_fun_some]
theorem keycode_need.ev   {a0 : Int} : evAt (env_keycode_need  ) [] [0] [.v (.one (.d (.int .i64) a0))] [] some = keycode_need.c   a0 (fun r => some ⟨.v (.one (.d (.int .i64) r)), []⟩) := by
  kernel_rfl
def keycode_need.f (k : Nat) (a0 : Int) : Option Int := keycode_need.c   a0 some
theorem keycode_need.is   : FnIs (env_keycode_need  ) 83 Go.Proofs.Tryz.f83 := ⟨Go.Proofs.Tryz.func83, rfl, rfl, rfl, by decide⟩
theorem keycode_need.envok    : EnvOK (env_keycode_need  ).toEnv := by
  intro f c h
  simp only [env_keycode_need] at h
  simp at h
noncomputable abbrev keycode_need.E (k : Nat) : FEnv := env_keycode_need  
theorem keycode_need.hE (k : Nat) : EnvOK (keycode_need.E k).toEnv := keycode_need.envok 
theorem keycode_need.ok (k : Nat) : CtOK Go.Proofs.Tryz.prog 83 (ct_keycode_need (keycode_need.f k)) := by
  refine ct_of_ev (E := keycode_need.E k) keycode_need.is (keycode_need.hE k) (fun s hs => by simp [keycode_need.E, env_keycode_need] at hs) rfl ?_
  intro tvs blks res h
  simp only [ct_keycode_need] at h
  split at h
  · exact (keycode_need.ev.trans keycode_need.c_bind).trans h
  · simp at h

/-! ### keycode_get8: function 84 -/
abbrev G_keycode_get8 : Type := ByteArray → Option Int
def ct_keycode_get8 (g : G_keycode_get8) : Ct where
  nin := 0
  mv := []
  F := fun tvs blks {β} K => match tvs, blks with
    | [.v (.one (.d .str a0))], [] => (g a0).bind fun r => K ⟨.v (.one (.d (.int .u64) r)), []⟩
    | _, _ => none
  legit := fun tvs blks K r h => by
    split at h
    · obtain ⟨x, hx, hk⟩ := Option.bind_eq_some_iff.1 h
      refine ⟨_, ?_, hk⟩
      simp only [hx, Option.bind_some]
    · simp at h
abbrev S_keycode_get8_0 : Type := ByteArray → Int → Int → Option Int
def seg_keycode_get8_0 (g : S_keycode_get8_0) : Seg where
  path := [4, 1, 0, 1, 1]
  prep := []
  keep := [0, 3, 5]
  F := fun tvs blks {β} K => match tvs, blks with
    | [.v (.one (.d .str x0)), .v (.one (.d (.int .u64) x1)), .v (.one (.d (.int .i64) x2))], [] => (g x0 x1 x2).bind fun r => K ⟨.v (.one (.d (.int .u64) r)), []⟩
    | _, _ => none
  legit := fun tvs blks K r h => by
    split at h
    · obtain ⟨x, hx, hk⟩ := Option.bind_eq_some_iff.1 h
      refine ⟨_, ?_, hk⟩
      simp only [hx, Option.bind_some]
    · simp at h
noncomputable def env_keycode_get8  (s0 : S_keycode_get8_0) : FEnv := { P := Go.Proofs.Tryz.prog, ct := fun m => none, N := 17, body := Go.Proofs.Tryz.f84.body.getD .skip, rvs := [.tmp 2], rts := [47], nin := 0, rmv := [], segs := [seg_keycode_get8_0 s0] }
def keycode_get8.c {β : Type}  (s0 : S_keycode_get8_0) (a0 : ByteArray) (ret : Int → Option β) : Option β := ((s0 a0 (0 : Int) (0 : Int)).bind ret)
def keycode_get8.s0c {β : Type}  (s0 : S_keycode_get8_0) (x0 : ByteArray) (x1 : Int) (x2 : Int) (ret : Int → Option β) : Option β := (bif (decide (x2 < (8 : Int))) then (bif ((decide ((0 : Int) ≤ x2)) && (decide (x2 < ((ByteArray.size x0) : Int)))) then ((s0 x0 (IntKind.wrap IntKind.u64 ((BitVec.toNat ((BitVec.ofInt (64 : Nat) (IntKind.wrap IntKind.u64 (x1 * (256 : Int)))) ||| (BitVec.ofInt (64 : Nat) (IntKind.wrap IntKind.u64 (bt x0 x2))))) : Int)) (IntKind.wrap IntKind.i64 (x2 + (1 : Int)))).bind ret) else none) else (ret (x1)))
theorem keycode_get8.c_bind {β : Type}  {s0 : S_keycode_get8_0} {a0 : ByteArray} {ret : Int → Option β} : keycode_get8.c  s0 a0 ret = (keycode_get8.c  s0 a0 some).bind ret := by
  simp only [keycode_get8.c, bif_bind, sum_bind, Option.bind_assoc, Option.bind_some, Option.bind_none, Option.bind_fun_some]
theorem keycode_get8.s0c_bind {β : Type}  {s0 : S_keycode_get8_0} {x0 : ByteArray} {x1 : Int} {x2 : Int} {ret : Int → Option β} : keycode_get8.s0c  s0 x0 x1 x2 ret = (keycode_get8.s0c  s0 x0 x1 x2 some).bind ret := by
  simp only [keycode_get8.s0c, bif_bind, sum_bind, Option.bind_assoc, Option.bind_some, Option.bind_none, Option.bind_fun_some]
theorem keycode_get8.ev  {s0 : S_keycode_get8_0} {a0 : ByteArray} : evAt (env_keycode_get8  s0) [] [0] [.v (.one (.d .str a0))] [] some = keycode_get8.c  s0 a0 (fun r => some ⟨.v (.one (.d (.int .u64) r)), []⟩) := by
  kernel_rfl
theorem keycode_get8.s0_ev  {s0 : S_keycode_get8_0} {x0 : ByteArray} {x1 : Int} {x2 : Int} : evAt (env_keycode_get8  s0) [4, 1, 0, 1, 1] [0, 3, 5] [.v (.one (.d .str x0)), .v (.one (.d (.int .u64) x1)), .v (.one (.d (.int .i64) x2))] [] some = keycode_get8.s0c  s0 x0 x1 x2 (fun r => some ⟨.v (.one (.d (.int .u64) r)), []⟩) := by
  kernel_rfl
def keycode_get8.s0 : Nat → ByteArray → Int → Int → Option Int
  | 0, _, _, _ => none
  | k + 1, x0, x1, x2 => keycode_get8.s0c  (keycode_get8.s0 k) x0 x1 x2 some
def keycode_get8.f (k : Nat) (a0 : ByteArray) : Option Int := keycode_get8.c  (keycode_get8.s0 k) a0 some
theorem keycode_get8.is  {s0 : S_keycode_get8_0} : FnIs (env_keycode_get8  s0) 84 Go.Proofs.Tryz.f84 := ⟨Go.Proofs.Tryz.func84, rfl, rfl, rfl, by decide⟩
theorem keycode_get8.envok  {s0 : S_keycode_get8_0}  : EnvOK (env_keycode_get8  s0).toEnv := by
  intro f c h
  simp only [env_keycode_get8] at h
  simp at h
noncomputable abbrev keycode_get8.E (k : Nat) : FEnv := env_keycode_get8  (keycode_get8.s0 k)
theorem keycode_get8.hE (k : Nat) : EnvOK (keycode_get8.E k).toEnv := keycode_get8.envok 
theorem keycode_get8.segs_ok : ∀ k, ∀ s ∈ (keycode_get8.E k).segs, SegOK (keycode_get8.E k) Go.Proofs.Tryz.f84 s
  | 0 => by
    intro s hs
    simp only [keycode_get8.E, env_keycode_get8, List.mem_cons, List.not_mem_nil, or_false] at hs
    rcases hs with rfl
    · intro tvs blks res h; exfalso; simp only [seg_keycode_get8_0] at h; split at h <;> simp [keycode_get8.s0] at h
  | k + 1 => by
    intro s hs
    simp only [keycode_get8.E, env_keycode_get8, List.mem_cons, List.not_mem_nil, or_false] at hs
    rcases hs with rfl
    · refine seg_of_ev (E := keycode_get8.E k) (keycode_get8.hE k) ⟨keycode_get8.is.rvs⟩ (keycode_get8.segs_ok k) ?_
      intro tvs blks res h
      simp only [seg_keycode_get8_0] at h
      split at h
      · exact (keycode_get8.s0_ev.trans keycode_get8.s0c_bind).trans h
      · simp at h
theorem keycode_get8.ok (k : Nat) : CtOK Go.Proofs.Tryz.prog 84 (ct_keycode_get8 (keycode_get8.f k)) := by
  refine ct_of_ev (E := keycode_get8.E k) keycode_get8.is (keycode_get8.hE k) (keycode_get8.segs_ok k) rfl ?_
  intro tvs blks res h
  simp only [ct_keycode_get8] at h
  split at h
  · exact (keycode_get8.ev.trans keycode_get8.c_bind).trans h
  · simp at h
end Go.Proofs.YtddlebbjaadbeaaGreatDoor.Aev
