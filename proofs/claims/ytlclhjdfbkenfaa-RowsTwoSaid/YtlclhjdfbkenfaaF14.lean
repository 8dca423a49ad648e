/- By a program of this session (AEV): functions of the program as plain functions, and that the machine does what they say. -/
import Derived.Test.YtlclhjdfbkenfaaAevW
import Derived.Test.YtlclhjdfbkenfaaProg
import Derived.Laws.Externs
import Derived.Lib.Bytealg
namespace Go.Proofs.Ytlclhjdfbkenfaa.Aev
set_option linter.unusedVariables false
set_option linter.unusedSimpArgs false
set_option maxRecDepth 100000
set_option maxHeartbeats 4000000
open Go
/-! ### transomref03_ReadUint: function 29 -/
def ct_transomref03_ReadUint (g : ByteArray → Option (Int × ByteArray × Int)) : Ct where
  nin := 0
  mv := []
  F := fun tvs blks {β} K => match tvs, blks with
    | [.v (.one (.d .str a0))], [] => (g a0).bind fun r => K ⟨.tup [(.one (.d (.int .u64) r.1)), (.one (.d .str r.2.1)), (.one (.d (.int .i64) r.2.2))], []⟩
    | _, _ => none
  legit := fun tvs blks K r h => by
    split at h
    · obtain ⟨x, hx, hk⟩ := Option.bind_eq_some_iff.1 h
      refine ⟨_, ?_, hk⟩
      simp only [hx, Option.bind_some]
    · simp at h
def seg_transomref03_ReadUint_0 (g : ByteArray → Int → Int → Option (Int × ByteArray × Int)) : Seg where
  path := [4, 1, 0, 1, 1]
  prep := []
  keep := [0, 5, 6]
  F := fun tvs blks {β} K => match tvs, blks with
    | [.v (.one (.d .str x0)), .v (.one (.d (.int .u64) x1)), .v (.one (.d (.int .i64) x2))], [] => (g x0 x1 x2).bind fun r => K ⟨.tup [(.one (.d (.int .u64) r.1)), (.one (.d .str r.2.1)), (.one (.d (.int .i64) r.2.2))], []⟩
    | _, _ => none
  legit := fun tvs blks K r h => by
    split at h
    · obtain ⟨x, hx, hk⟩ := Option.bind_eq_some_iff.1 h
      refine ⟨_, ?_, hk⟩
      simp only [hx, Option.bind_some]
    · simp at h
def seg_transomref03_ReadUint_1 (g : ByteArray → Int → Int → Int → Bool → Option (Int × ByteArray × Int)) : Seg where
  path := [1, 0, 1, 1, 4, 0, 1, 5, 4, 1, 0, 1, 1]
  prep := []
  keep := [0, 5, 6, 7, 25]
  F := fun tvs blks {β} K => match tvs, blks with
    | [.v (.one (.d .str x0)), .v (.one (.d (.int .u64) x1)), .v (.one (.d (.int .i64) x2)), .v (.one (.d (.int .u64) x3)), .v (.one (.d .bool x4))], [] => (g x0 x1 x2 x3 x4).bind fun r => K ⟨.tup [(.one (.d (.int .u64) r.1)), (.one (.d .str r.2.1)), (.one (.d (.int .i64) r.2.2))], []⟩
    | _, _ => none
  legit := fun tvs blks K r h => by
    split at h
    · obtain ⟨x, hx, hk⟩ := Option.bind_eq_some_iff.1 h
      refine ⟨_, ?_, hk⟩
      simp only [hx, Option.bind_some]
    · simp at h
def seg_transomref03_ReadUint_2 (g : ByteArray → Int → Int → Int → Option (Int × ByteArray × Int)) : Seg where
  path := [1, 1, 1, 4, 0, 1, 5, 4, 1, 0, 1, 1]
  prep := []
  keep := [0, 5, 6, 7]
  F := fun tvs blks {β} K => match tvs, blks with
    | [.v (.one (.d .str x0)), .v (.one (.d (.int .u64) x1)), .v (.one (.d (.int .i64) x2)), .v (.one (.d (.int .u64) x3))], [] => (g x0 x1 x2 x3).bind fun r => K ⟨.tup [(.one (.d (.int .u64) r.1)), (.one (.d .str r.2.1)), (.one (.d (.int .i64) r.2.2))], []⟩
    | _, _ => none
  legit := fun tvs blks K r h => by
    split at h
    · obtain ⟨x, hx, hk⟩ := Option.bind_eq_some_iff.1 h
      refine ⟨_, ?_, hk⟩
      simp only [hx, Option.bind_some]
    · simp at h
def seg_transomref03_ReadUint_3 (g : ByteArray → Int → Int → Bool → Option (Int × ByteArray × Int)) : Seg where
  path := [1, 0, 2, 1, 1, 1, 1, 1, 4, 0, 1, 5, 4, 1, 0, 1, 1]
  prep := []
  keep := [0, 5, 6, 41]
  F := fun tvs blks {β} K => match tvs, blks with
    | [.v (.one (.d .str x0)), .v (.one (.d (.int .u64) x1)), .v (.one (.d (.int .i64) x2)), .v (.one (.d .bool x3))], [] => (g x0 x1 x2 x3).bind fun r => K ⟨.tup [(.one (.d (.int .u64) r.1)), (.one (.d .str r.2.1)), (.one (.d (.int .i64) r.2.2))], []⟩
    | _, _ => none
  legit := fun tvs blks K r h => by
    split at h
    · obtain ⟨x, hx, hk⟩ := Option.bind_eq_some_iff.1 h
      refine ⟨_, ?_, hk⟩
      simp only [hx, Option.bind_some]
    · simp at h
def seg_transomref03_ReadUint_4 (g : ByteArray → Int → Int → Option (Int × ByteArray × Int)) : Seg where
  path := [1, 2, 1, 1, 1, 1, 1, 4, 0, 1, 5, 4, 1, 0, 1, 1]
  prep := []
  keep := [0, 5, 6]
  F := fun tvs blks {β} K => match tvs, blks with
    | [.v (.one (.d .str x0)), .v (.one (.d (.int .u64) x1)), .v (.one (.d (.int .i64) x2))], [] => (g x0 x1 x2).bind fun r => K ⟨.tup [(.one (.d (.int .u64) r.1)), (.one (.d .str r.2.1)), (.one (.d (.int .i64) r.2.2))], []⟩
    | _, _ => none
  legit := fun tvs blks K r h => by
    split at h
    · obtain ⟨x, hx, hk⟩ := Option.bind_eq_some_iff.1 h
      refine ⟨_, ?_, hk⟩
      simp only [hx, Option.bind_some]
    · simp at h
def seg_transomref03_ReadUint_5 (g : ByteArray → Int → Int → Option (Int × ByteArray × Int)) : Seg where
  path := [1, 1, 5, 4, 1, 0, 1, 1]
  prep := []
  keep := [0, 5, 6]
  F := fun tvs blks {β} K => match tvs, blks with
    | [.v (.one (.d .str x0)), .v (.one (.d (.int .u64) x1)), .v (.one (.d (.int .i64) x2))], [] => (g x0 x1 x2).bind fun r => K ⟨.tup [(.one (.d (.int .u64) r.1)), (.one (.d .str r.2.1)), (.one (.d (.int .i64) r.2.2))], []⟩
    | _, _ => none
  legit := fun tvs blks K r h => by
    split at h
    · obtain ⟨x, hx, hk⟩ := Option.bind_eq_some_iff.1 h
      refine ⟨_, ?_, hk⟩
      simp only [hx, Option.bind_some]
    · simp at h
noncomputable def env_transomref03_ReadUint  (s0 : ByteArray → Int → Int → Option (Int × ByteArray × Int)) (s1 : ByteArray → Int → Int → Int → Bool → Option (Int × ByteArray × Int)) (s2 : ByteArray → Int → Int → Int → Option (Int × ByteArray × Int)) (s3 : ByteArray → Int → Int → Bool → Option (Int × ByteArray × Int)) (s4 : ByteArray → Int → Int → Option (Int × ByteArray × Int)) (s5 : ByteArray → Int → Int → Option (Int × ByteArray × Int)) : FEnv := { P := Go.Proofs.Try.prog, ct := fun m => none, N := 47, body := Go.Proofs.Try.f29.body.getD .skip, rvs := [.tmp 2, .tmp 3, .tmp 4], rts := [43, 9, 3], nin := 0, rmv := [], segs := [seg_transomref03_ReadUint_0 s0, seg_transomref03_ReadUint_1 s1, seg_transomref03_ReadUint_2 s2, seg_transomref03_ReadUint_3 s3, seg_transomref03_ReadUint_4 s4, seg_transomref03_ReadUint_5 s5] }
def transomref03_ReadUint.c {β : Type}  (s0 : ByteArray → Int → Int → Option (Int × ByteArray × Int)) (s1 : ByteArray → Int → Int → Int → Bool → Option (Int × ByteArray × Int)) (s2 : ByteArray → Int → Int → Int → Option (Int × ByteArray × Int)) (s3 : ByteArray → Int → Int → Bool → Option (Int × ByteArray × Int)) (s4 : ByteArray → Int → Int → Option (Int × ByteArray × Int)) (s5 : ByteArray → Int → Int → Option (Int × ByteArray × Int)) (a0 : ByteArray) (ret : (Int × ByteArray × Int) → Option β) : Option β := ((s0 a0 (0 : Int) (0 : Int)).bind ret)
def transomref03_ReadUint.s0c {β : Type}  (s0 : ByteArray → Int → Int → Option (Int × ByteArray × Int)) (s1 : ByteArray → Int → Int → Int → Bool → Option (Int × ByteArray × Int)) (s2 : ByteArray → Int → Int → Int → Option (Int × ByteArray × Int)) (s3 : ByteArray → Int → Int → Bool → Option (Int × ByteArray × Int)) (s4 : ByteArray → Int → Int → Option (Int × ByteArray × Int)) (s5 : ByteArray → Int → Int → Option (Int × ByteArray × Int)) (x0 : ByteArray) (x1 : Int) (x2 : Int) (ret : (Int × ByteArray × Int) → Option β) : Option β := (bif (decide (x2 < (10 : Int))) then (bif (decide (x2 ≥ ((ByteArray.size x0) : Int))) then (ret ((0 : Int), (ByteArray.mk (List.toArray [])), (3 : Int))) else (bif ((decide ((0 : Int) ≤ x2)) && (decide (x2 < ((ByteArray.size x0) : Int)))) then (bif (x2 == (9 : Int)) then ((s1 x0 x1 x2 (IntKind.wrap IntKind.u64 (bt x0 x2)) (decide ((IntKind.wrap IntKind.u64 (bt x0 x2)) > (1 : Int)))).bind ret) else ((s1 x0 x1 x2 (IntKind.wrap IntKind.u64 (bt x0 x2)) false).bind ret)) else none)) else (ret ((0 : Int), (ByteArray.mk (List.toArray [])), (4 : Int))))
def transomref03_ReadUint.s1c {β : Type}  (s0 : ByteArray → Int → Int → Option (Int × ByteArray × Int)) (s1 : ByteArray → Int → Int → Int → Bool → Option (Int × ByteArray × Int)) (s2 : ByteArray → Int → Int → Int → Option (Int × ByteArray × Int)) (s3 : ByteArray → Int → Int → Bool → Option (Int × ByteArray × Int)) (s4 : ByteArray → Int → Int → Option (Int × ByteArray × Int)) (s5 : ByteArray → Int → Int → Option (Int × ByteArray × Int)) (x0 : ByteArray) (x1 : Int) (x2 : Int) (x3 : Int) (x4 : Bool) (ret : (Int × ByteArray × Int) → Option β) : Option β := (bif x4 then (ret ((0 : Int), (ByteArray.mk (List.toArray [])), (4 : Int))) else ((s2 x0 x1 x2 x3).bind ret))
def transomref03_ReadUint.s2c {β : Type}  (s0 : ByteArray → Int → Int → Option (Int × ByteArray × Int)) (s1 : ByteArray → Int → Int → Int → Bool → Option (Int × ByteArray × Int)) (s2 : ByteArray → Int → Int → Int → Option (Int × ByteArray × Int)) (s3 : ByteArray → Int → Int → Bool → Option (Int × ByteArray × Int)) (s4 : ByteArray → Int → Int → Option (Int × ByteArray × Int)) (s5 : ByteArray → Int → Int → Option (Int × ByteArray × Int)) (x0 : ByteArray) (x1 : Int) (x2 : Int) (x3 : Int) (ret : (Int × ByteArray × Int) → Option β) : Option β := (bif (decide ((0 : Int) ≤ (IntKind.wrap IntKind.u64 (IntKind.wrap IntKind.i64 ((7 : Int) * x2))))) then (bif (decide (x3 < (128 : Int))) then (bif (x3 == (0 : Int)) then ((s3 x0 (IntKind.wrap IntKind.u64 ((BitVec.toNat ((BitVec.ofInt (64 : Nat) x1) ||| (BitVec.ofInt (64 : Nat) (IntKind.wrap IntKind.u64 ((Int.tmod x3 (128 : Int)) * ((2 : Int) ^ (Min.min (Int.toNat (IntKind.wrap IntKind.u64 (IntKind.wrap IntKind.i64 ((7 : Int) * x2)))) (64 : Nat)))))))) : Int)) x2 (decide (x2 > (0 : Int)))).bind ret) else ((s3 x0 (IntKind.wrap IntKind.u64 ((BitVec.toNat ((BitVec.ofInt (64 : Nat) x1) ||| (BitVec.ofInt (64 : Nat) (IntKind.wrap IntKind.u64 ((Int.tmod x3 (128 : Int)) * ((2 : Int) ^ (Min.min (Int.toNat (IntKind.wrap IntKind.u64 (IntKind.wrap IntKind.i64 ((7 : Int) * x2)))) (64 : Nat)))))))) : Int)) x2 false).bind ret)) else ((s5 x0 (IntKind.wrap IntKind.u64 ((BitVec.toNat ((BitVec.ofInt (64 : Nat) x1) ||| (BitVec.ofInt (64 : Nat) (IntKind.wrap IntKind.u64 ((Int.tmod x3 (128 : Int)) * ((2 : Int) ^ (Min.min (Int.toNat (IntKind.wrap IntKind.u64 (IntKind.wrap IntKind.i64 ((7 : Int) * x2)))) (64 : Nat)))))))) : Int)) x2).bind ret)) else none)
def transomref03_ReadUint.s3c {β : Type}  (s0 : ByteArray → Int → Int → Option (Int × ByteArray × Int)) (s1 : ByteArray → Int → Int → Int → Bool → Option (Int × ByteArray × Int)) (s2 : ByteArray → Int → Int → Int → Option (Int × ByteArray × Int)) (s3 : ByteArray → Int → Int → Bool → Option (Int × ByteArray × Int)) (s4 : ByteArray → Int → Int → Option (Int × ByteArray × Int)) (s5 : ByteArray → Int → Int → Option (Int × ByteArray × Int)) (x0 : ByteArray) (x1 : Int) (x2 : Int) (x3 : Bool) (ret : (Int × ByteArray × Int) → Option β) : Option β := (bif x3 then (ret ((0 : Int), (ByteArray.mk (List.toArray [])), (4 : Int))) else ((s4 x0 x1 x2).bind ret))
def transomref03_ReadUint.s4c {β : Type}  (s0 : ByteArray → Int → Int → Option (Int × ByteArray × Int)) (s1 : ByteArray → Int → Int → Int → Bool → Option (Int × ByteArray × Int)) (s2 : ByteArray → Int → Int → Int → Option (Int × ByteArray × Int)) (s3 : ByteArray → Int → Int → Bool → Option (Int × ByteArray × Int)) (s4 : ByteArray → Int → Int → Option (Int × ByteArray × Int)) (s5 : ByteArray → Int → Int → Option (Int × ByteArray × Int)) (x0 : ByteArray) (x1 : Int) (x2 : Int) (ret : (Int × ByteArray × Int) → Option β) : Option β := (bif (((decide ((0 : Int) ≤ (IntKind.wrap IntKind.i64 (x2 + (1 : Int))))) && (decide ((IntKind.wrap IntKind.i64 (x2 + (1 : Int))) ≤ ((ByteArray.size x0) : Int)))) && (decide (((ByteArray.size x0) : Int) ≤ ((ByteArray.size x0) : Int)))) then (ret (x1, (ByteArray.extract x0 (Int.toNat (IntKind.wrap IntKind.i64 (x2 + (1 : Int)))) (Int.toNat ((ByteArray.size x0) : Int))), (0 : Int))) else none)
def transomref03_ReadUint.s5c {β : Type}  (s0 : ByteArray → Int → Int → Option (Int × ByteArray × Int)) (s1 : ByteArray → Int → Int → Int → Bool → Option (Int × ByteArray × Int)) (s2 : ByteArray → Int → Int → Int → Option (Int × ByteArray × Int)) (s3 : ByteArray → Int → Int → Bool → Option (Int × ByteArray × Int)) (s4 : ByteArray → Int → Int → Option (Int × ByteArray × Int)) (s5 : ByteArray → Int → Int → Option (Int × ByteArray × Int)) (x0 : ByteArray) (x1 : Int) (x2 : Int) (ret : (Int × ByteArray × Int) → Option β) : Option β := ((s0 x0 x1 (IntKind.wrap IntKind.i64 (x2 + (1 : Int)))).bind ret)
theorem transomref03_ReadUint.c_bind {β : Type}  (s0 : ByteArray → Int → Int → Option (Int × ByteArray × Int)) (s1 : ByteArray → Int → Int → Int → Bool → Option (Int × ByteArray × Int)) (s2 : ByteArray → Int → Int → Int → Option (Int × ByteArray × Int)) (s3 : ByteArray → Int → Int → Bool → Option (Int × ByteArray × Int)) (s4 : ByteArray → Int → Int → Option (Int × ByteArray × Int)) (s5 : ByteArray → Int → Int → Option (Int × ByteArray × Int)) (a0 : ByteArray) (ret : (Int × ByteArray × Int) → Option β) : transomref03_ReadUint.c  s0 s1 s2 s3 s4 s5 a0 ret = (transomref03_ReadUint.c  s0 s1 s2 s3 s4 s5 a0 some).bind ret := by
  simp only [transomref03_ReadUint.c, bif_bind, sum_bind, Option.bind_assoc, Option.bind_some, Option.bind_none, Option.bind_fun_some]
theorem transomref03_ReadUint.s0c_bind {β : Type}  (s0 : ByteArray → Int → Int → Option (Int × ByteArray × Int)) (s1 : ByteArray → Int → Int → Int → Bool → Option (Int × ByteArray × Int)) (s2 : ByteArray → Int → Int → Int → Option (Int × ByteArray × Int)) (s3 : ByteArray → Int → Int → Bool → Option (Int × ByteArray × Int)) (s4 : ByteArray → Int → Int → Option (Int × ByteArray × Int)) (s5 : ByteArray → Int → Int → Option (Int × ByteArray × Int)) (x0 : ByteArray) (x1 : Int) (x2 : Int) (ret : (Int × ByteArray × Int) → Option β) : transomref03_ReadUint.s0c  s0 s1 s2 s3 s4 s5 x0 x1 x2 ret = (transomref03_ReadUint.s0c  s0 s1 s2 s3 s4 s5 x0 x1 x2 some).bind ret := by
  simp only [transomref03_ReadUint.s0c, bif_bind, sum_bind, Option.bind_assoc, Option.bind_some, Option.bind_none, Option.bind_fun_some]
theorem transomref03_ReadUint.s1c_bind {β : Type}  (s0 : ByteArray → Int → Int → Option (Int × ByteArray × Int)) (s1 : ByteArray → Int → Int → Int → Bool → Option (Int × ByteArray × Int)) (s2 : ByteArray → Int → Int → Int → Option (Int × ByteArray × Int)) (s3 : ByteArray → Int → Int → Bool → Option (Int × ByteArray × Int)) (s4 : ByteArray → Int → Int → Option (Int × ByteArray × Int)) (s5 : ByteArray → Int → Int → Option (Int × ByteArray × Int)) (x0 : ByteArray) (x1 : Int) (x2 : Int) (x3 : Int) (x4 : Bool) (ret : (Int × ByteArray × Int) → Option β) : transomref03_ReadUint.s1c  s0 s1 s2 s3 s4 s5 x0 x1 x2 x3 x4 ret = (transomref03_ReadUint.s1c  s0 s1 s2 s3 s4 s5 x0 x1 x2 x3 x4 some).bind ret := by
  simp only [transomref03_ReadUint.s1c, bif_bind, sum_bind, Option.bind_assoc, Option.bind_some, Option.bind_none, Option.bind_fun_some]
theorem transomref03_ReadUint.s2c_bind {β : Type}  (s0 : ByteArray → Int → Int → Option (Int × ByteArray × Int)) (s1 : ByteArray → Int → Int → Int → Bool → Option (Int × ByteArray × Int)) (s2 : ByteArray → Int → Int → Int → Option (Int × ByteArray × Int)) (s3 : ByteArray → Int → Int → Bool → Option (Int × ByteArray × Int)) (s4 : ByteArray → Int → Int → Option (Int × ByteArray × Int)) (s5 : ByteArray → Int → Int → Option (Int × ByteArray × Int)) (x0 : ByteArray) (x1 : Int) (x2 : Int) (x3 : Int) (ret : (Int × ByteArray × Int) → Option β) : transomref03_ReadUint.s2c  s0 s1 s2 s3 s4 s5 x0 x1 x2 x3 ret = (transomref03_ReadUint.s2c  s0 s1 s2 s3 s4 s5 x0 x1 x2 x3 some).bind ret := by
  simp only [transomref03_ReadUint.s2c, bif_bind, sum_bind, Option.bind_assoc, Option.bind_some, Option.bind_none, Option.bind_fun_some]
theorem transomref03_ReadUint.s3c_bind {β : Type}  (s0 : ByteArray → Int → Int → Option (Int × ByteArray × Int)) (s1 : ByteArray → Int → Int → Int → Bool → Option (Int × ByteArray × Int)) (s2 : ByteArray → Int → Int → Int → Option (Int × ByteArray × Int)) (s3 : ByteArray → Int → Int → Bool → Option (Int × ByteArray × Int)) (s4 : ByteArray → Int → Int → Option (Int × ByteArray × Int)) (s5 : ByteArray → Int → Int → Option (Int × ByteArray × Int)) (x0 : ByteArray) (x1 : Int) (x2 : Int) (x3 : Bool) (ret : (Int × ByteArray × Int) → Option β) : transomref03_ReadUint.s3c  s0 s1 s2 s3 s4 s5 x0 x1 x2 x3 ret = (transomref03_ReadUint.s3c  s0 s1 s2 s3 s4 s5 x0 x1 x2 x3 some).bind ret := by
  simp only [transomref03_ReadUint.s3c, bif_bind, sum_bind, Option.bind_assoc, Option.bind_some, Option.bind_none, Option.bind_fun_some]
theorem transomref03_ReadUint.s4c_bind {β : Type}  (s0 : ByteArray → Int → Int → Option (Int × ByteArray × Int)) (s1 : ByteArray → Int → Int → Int → Bool → Option (Int × ByteArray × Int)) (s2 : ByteArray → Int → Int → Int → Option (Int × ByteArray × Int)) (s3 : ByteArray → Int → Int → Bool → Option (Int × ByteArray × Int)) (s4 : ByteArray → Int → Int → Option (Int × ByteArray × Int)) (s5 : ByteArray → Int → Int → Option (Int × ByteArray × Int)) (x0 : ByteArray) (x1 : Int) (x2 : Int) (ret : (Int × ByteArray × Int) → Option β) : transomref03_ReadUint.s4c  s0 s1 s2 s3 s4 s5 x0 x1 x2 ret = (transomref03_ReadUint.s4c  s0 s1 s2 s3 s4 s5 x0 x1 x2 some).bind ret := by
  simp only [transomref03_ReadUint.s4c, bif_bind, sum_bind, Option.bind_assoc, Option.bind_some, Option.bind_none, Option.bind_fun_some]
theorem transomref03_ReadUint.s5c_bind {β : Type}  (s0 : ByteArray → Int → Int → Option (Int × ByteArray × Int)) (s1 : ByteArray → Int → Int → Int → Bool → Option (Int × ByteArray × Int)) (s2 : ByteArray → Int → Int → Int → Option (Int × ByteArray × Int)) (s3 : ByteArray → Int → Int → Bool → Option (Int × ByteArray × Int)) (s4 : ByteArray → Int → Int → Option (Int × ByteArray × Int)) (s5 : ByteArray → Int → Int → Option (Int × ByteArray × Int)) (x0 : ByteArray) (x1 : Int) (x2 : Int) (ret : (Int × ByteArray × Int) → Option β) : transomref03_ReadUint.s5c  s0 s1 s2 s3 s4 s5 x0 x1 x2 ret = (transomref03_ReadUint.s5c  s0 s1 s2 s3 s4 s5 x0 x1 x2 some).bind ret := by
  simp only [transomref03_ReadUint.s5c, bif_bind, sum_bind, Option.bind_assoc, Option.bind_some, Option.bind_none, Option.bind_fun_some]
theorem transomref03_ReadUint.ev  (s0 : ByteArray → Int → Int → Option (Int × ByteArray × Int)) (s1 : ByteArray → Int → Int → Int → Bool → Option (Int × ByteArray × Int)) (s2 : ByteArray → Int → Int → Int → Option (Int × ByteArray × Int)) (s3 : ByteArray → Int → Int → Bool → Option (Int × ByteArray × Int)) (s4 : ByteArray → Int → Int → Option (Int × ByteArray × Int)) (s5 : ByteArray → Int → Int → Option (Int × ByteArray × Int)) (a0 : ByteArray) : evAt (env_transomref03_ReadUint  s0 s1 s2 s3 s4 s5) [] [0] [.v (.one (.d .str a0))] [] some = transomref03_ReadUint.c  s0 s1 s2 s3 s4 s5 a0 (fun r => some ⟨.tup [(.one (.d (.int .u64) r.1)), (.one (.d .str r.2.1)), (.one (.d (.int .i64) r.2.2))], []⟩) := by
  kernel_rfl
theorem transomref03_ReadUint.s0_ev  (s0 : ByteArray → Int → Int → Option (Int × ByteArray × Int)) (s1 : ByteArray → Int → Int → Int → Bool → Option (Int × ByteArray × Int)) (s2 : ByteArray → Int → Int → Int → Option (Int × ByteArray × Int)) (s3 : ByteArray → Int → Int → Bool → Option (Int × ByteArray × Int)) (s4 : ByteArray → Int → Int → Option (Int × ByteArray × Int)) (s5 : ByteArray → Int → Int → Option (Int × ByteArray × Int)) (x0 : ByteArray) (x1 : Int) (x2 : Int) : evAt (env_transomref03_ReadUint  s0 s1 s2 s3 s4 s5) [4, 1, 0, 1, 1] [0, 5, 6] [.v (.one (.d .str x0)), .v (.one (.d (.int .u64) x1)), .v (.one (.d (.int .i64) x2))] [] some = transomref03_ReadUint.s0c  s0 s1 s2 s3 s4 s5 x0 x1 x2 (fun r => some ⟨.tup [(.one (.d (.int .u64) r.1)), (.one (.d .str r.2.1)), (.one (.d (.int .i64) r.2.2))], []⟩) := by
  kernel_rfl
theorem transomref03_ReadUint.s1_ev  (s0 : ByteArray → Int → Int → Option (Int × ByteArray × Int)) (s1 : ByteArray → Int → Int → Int → Bool → Option (Int × ByteArray × Int)) (s2 : ByteArray → Int → Int → Int → Option (Int × ByteArray × Int)) (s3 : ByteArray → Int → Int → Bool → Option (Int × ByteArray × Int)) (s4 : ByteArray → Int → Int → Option (Int × ByteArray × Int)) (s5 : ByteArray → Int → Int → Option (Int × ByteArray × Int)) (x0 : ByteArray) (x1 : Int) (x2 : Int) (x3 : Int) (x4 : Bool) : evAt (env_transomref03_ReadUint  s0 s1 s2 s3 s4 s5) [1, 0, 1, 1, 4, 0, 1, 5, 4, 1, 0, 1, 1] [0, 5, 6, 7, 25] [.v (.one (.d .str x0)), .v (.one (.d (.int .u64) x1)), .v (.one (.d (.int .i64) x2)), .v (.one (.d (.int .u64) x3)), .v (.one (.d .bool x4))] [] some = transomref03_ReadUint.s1c  s0 s1 s2 s3 s4 s5 x0 x1 x2 x3 x4 (fun r => some ⟨.tup [(.one (.d (.int .u64) r.1)), (.one (.d .str r.2.1)), (.one (.d (.int .i64) r.2.2))], []⟩) := by
  kernel_rfl
theorem transomref03_ReadUint.s2_ev  (s0 : ByteArray → Int → Int → Option (Int × ByteArray × Int)) (s1 : ByteArray → Int → Int → Int → Bool → Option (Int × ByteArray × Int)) (s2 : ByteArray → Int → Int → Int → Option (Int × ByteArray × Int)) (s3 : ByteArray → Int → Int → Bool → Option (Int × ByteArray × Int)) (s4 : ByteArray → Int → Int → Option (Int × ByteArray × Int)) (s5 : ByteArray → Int → Int → Option (Int × ByteArray × Int)) (x0 : ByteArray) (x1 : Int) (x2 : Int) (x3 : Int) : evAt (env_transomref03_ReadUint  s0 s1 s2 s3 s4 s5) [1, 1, 1, 4, 0, 1, 5, 4, 1, 0, 1, 1] [0, 5, 6, 7] [.v (.one (.d .str x0)), .v (.one (.d (.int .u64) x1)), .v (.one (.d (.int .i64) x2)), .v (.one (.d (.int .u64) x3))] [] some = transomref03_ReadUint.s2c  s0 s1 s2 s3 s4 s5 x0 x1 x2 x3 (fun r => some ⟨.tup [(.one (.d (.int .u64) r.1)), (.one (.d .str r.2.1)), (.one (.d (.int .i64) r.2.2))], []⟩) := by
  kernel_rfl
theorem transomref03_ReadUint.s3_ev  (s0 : ByteArray → Int → Int → Option (Int × ByteArray × Int)) (s1 : ByteArray → Int → Int → Int → Bool → Option (Int × ByteArray × Int)) (s2 : ByteArray → Int → Int → Int → Option (Int × ByteArray × Int)) (s3 : ByteArray → Int → Int → Bool → Option (Int × ByteArray × Int)) (s4 : ByteArray → Int → Int → Option (Int × ByteArray × Int)) (s5 : ByteArray → Int → Int → Option (Int × ByteArray × Int)) (x0 : ByteArray) (x1 : Int) (x2 : Int) (x3 : Bool) : evAt (env_transomref03_ReadUint  s0 s1 s2 s3 s4 s5) [1, 0, 2, 1, 1, 1, 1, 1, 4, 0, 1, 5, 4, 1, 0, 1, 1] [0, 5, 6, 41] [.v (.one (.d .str x0)), .v (.one (.d (.int .u64) x1)), .v (.one (.d (.int .i64) x2)), .v (.one (.d .bool x3))] [] some = transomref03_ReadUint.s3c  s0 s1 s2 s3 s4 s5 x0 x1 x2 x3 (fun r => some ⟨.tup [(.one (.d (.int .u64) r.1)), (.one (.d .str r.2.1)), (.one (.d (.int .i64) r.2.2))], []⟩) := by
  kernel_rfl
theorem transomref03_ReadUint.s4_ev  (s0 : ByteArray → Int → Int → Option (Int × ByteArray × Int)) (s1 : ByteArray → Int → Int → Int → Bool → Option (Int × ByteArray × Int)) (s2 : ByteArray → Int → Int → Int → Option (Int × ByteArray × Int)) (s3 : ByteArray → Int → Int → Bool → Option (Int × ByteArray × Int)) (s4 : ByteArray → Int → Int → Option (Int × ByteArray × Int)) (s5 : ByteArray → Int → Int → Option (Int × ByteArray × Int)) (x0 : ByteArray) (x1 : Int) (x2 : Int) : evAt (env_transomref03_ReadUint  s0 s1 s2 s3 s4 s5) [1, 2, 1, 1, 1, 1, 1, 4, 0, 1, 5, 4, 1, 0, 1, 1] [0, 5, 6] [.v (.one (.d .str x0)), .v (.one (.d (.int .u64) x1)), .v (.one (.d (.int .i64) x2))] [] some = transomref03_ReadUint.s4c  s0 s1 s2 s3 s4 s5 x0 x1 x2 (fun r => some ⟨.tup [(.one (.d (.int .u64) r.1)), (.one (.d .str r.2.1)), (.one (.d (.int .i64) r.2.2))], []⟩) := by
  kernel_rfl
theorem transomref03_ReadUint.s5_ev  (s0 : ByteArray → Int → Int → Option (Int × ByteArray × Int)) (s1 : ByteArray → Int → Int → Int → Bool → Option (Int × ByteArray × Int)) (s2 : ByteArray → Int → Int → Int → Option (Int × ByteArray × Int)) (s3 : ByteArray → Int → Int → Bool → Option (Int × ByteArray × Int)) (s4 : ByteArray → Int → Int → Option (Int × ByteArray × Int)) (s5 : ByteArray → Int → Int → Option (Int × ByteArray × Int)) (x0 : ByteArray) (x1 : Int) (x2 : Int) : evAt (env_transomref03_ReadUint  s0 s1 s2 s3 s4 s5) [1, 1, 5, 4, 1, 0, 1, 1] [0, 5, 6] [.v (.one (.d .str x0)), .v (.one (.d (.int .u64) x1)), .v (.one (.d (.int .i64) x2))] [] some = transomref03_ReadUint.s5c  s0 s1 s2 s3 s4 s5 x0 x1 x2 (fun r => some ⟨.tup [(.one (.d (.int .u64) r.1)), (.one (.d .str r.2.1)), (.one (.d (.int .i64) r.2.2))], []⟩) := by
  kernel_rfl
mutual
def transomref03_ReadUint.s0 : Nat → ByteArray → Int → Int → Option (Int × ByteArray × Int)
  | 0, _, _, _ => none
  | k + 1, x0, x1, x2 => transomref03_ReadUint.s0c  (transomref03_ReadUint.s0 k) (transomref03_ReadUint.s1 k) (transomref03_ReadUint.s2 k) (transomref03_ReadUint.s3 k) (transomref03_ReadUint.s4 k) (transomref03_ReadUint.s5 k) x0 x1 x2 some
def transomref03_ReadUint.s1 : Nat → ByteArray → Int → Int → Int → Bool → Option (Int × ByteArray × Int)
  | 0, _, _, _, _, _ => none
  | k + 1, x0, x1, x2, x3, x4 => transomref03_ReadUint.s1c  (transomref03_ReadUint.s0 k) (transomref03_ReadUint.s1 k) (transomref03_ReadUint.s2 k) (transomref03_ReadUint.s3 k) (transomref03_ReadUint.s4 k) (transomref03_ReadUint.s5 k) x0 x1 x2 x3 x4 some
def transomref03_ReadUint.s2 : Nat → ByteArray → Int → Int → Int → Option (Int × ByteArray × Int)
  | 0, _, _, _, _ => none
  | k + 1, x0, x1, x2, x3 => transomref03_ReadUint.s2c  (transomref03_ReadUint.s0 k) (transomref03_ReadUint.s1 k) (transomref03_ReadUint.s2 k) (transomref03_ReadUint.s3 k) (transomref03_ReadUint.s4 k) (transomref03_ReadUint.s5 k) x0 x1 x2 x3 some
def transomref03_ReadUint.s3 : Nat → ByteArray → Int → Int → Bool → Option (Int × ByteArray × Int)
  | 0, _, _, _, _ => none
  | k + 1, x0, x1, x2, x3 => transomref03_ReadUint.s3c  (transomref03_ReadUint.s0 k) (transomref03_ReadUint.s1 k) (transomref03_ReadUint.s2 k) (transomref03_ReadUint.s3 k) (transomref03_ReadUint.s4 k) (transomref03_ReadUint.s5 k) x0 x1 x2 x3 some
def transomref03_ReadUint.s4 : Nat → ByteArray → Int → Int → Option (Int × ByteArray × Int)
  | 0, _, _, _ => none
  | k + 1, x0, x1, x2 => transomref03_ReadUint.s4c  (transomref03_ReadUint.s0 k) (transomref03_ReadUint.s1 k) (transomref03_ReadUint.s2 k) (transomref03_ReadUint.s3 k) (transomref03_ReadUint.s4 k) (transomref03_ReadUint.s5 k) x0 x1 x2 some
def transomref03_ReadUint.s5 : Nat → ByteArray → Int → Int → Option (Int × ByteArray × Int)
  | 0, _, _, _ => none
  | k + 1, x0, x1, x2 => transomref03_ReadUint.s5c  (transomref03_ReadUint.s0 k) (transomref03_ReadUint.s1 k) (transomref03_ReadUint.s2 k) (transomref03_ReadUint.s3 k) (transomref03_ReadUint.s4 k) (transomref03_ReadUint.s5 k) x0 x1 x2 some
end
def transomref03_ReadUint.f (k : Nat) (a0 : ByteArray) : Option (Int × ByteArray × Int) := transomref03_ReadUint.c  (transomref03_ReadUint.s0 k) (transomref03_ReadUint.s1 k) (transomref03_ReadUint.s2 k) (transomref03_ReadUint.s3 k) (transomref03_ReadUint.s4 k) (transomref03_ReadUint.s5 k) a0 some
theorem transomref03_ReadUint.is  (s0 : ByteArray → Int → Int → Option (Int × ByteArray × Int)) (s1 : ByteArray → Int → Int → Int → Bool → Option (Int × ByteArray × Int)) (s2 : ByteArray → Int → Int → Int → Option (Int × ByteArray × Int)) (s3 : ByteArray → Int → Int → Bool → Option (Int × ByteArray × Int)) (s4 : ByteArray → Int → Int → Option (Int × ByteArray × Int)) (s5 : ByteArray → Int → Int → Option (Int × ByteArray × Int)) : FnIs (env_transomref03_ReadUint  s0 s1 s2 s3 s4 s5) 29 Go.Proofs.Try.f29 := ⟨Go.Proofs.Try.func29, rfl, rfl, rfl, by decide⟩
theorem transomref03_ReadUint.envok  (s0 : ByteArray → Int → Int → Option (Int × ByteArray × Int)) (s1 : ByteArray → Int → Int → Int → Bool → Option (Int × ByteArray × Int)) (s2 : ByteArray → Int → Int → Int → Option (Int × ByteArray × Int)) (s3 : ByteArray → Int → Int → Bool → Option (Int × ByteArray × Int)) (s4 : ByteArray → Int → Int → Option (Int × ByteArray × Int)) (s5 : ByteArray → Int → Int → Option (Int × ByteArray × Int))  : EnvOK (env_transomref03_ReadUint  s0 s1 s2 s3 s4 s5).toEnv := by
  intro f c h
  simp only [env_transomref03_ReadUint] at h
  simp at h
theorem transomref03_ReadUint.segs_ok : ∀ k, ∀ s ∈ (env_transomref03_ReadUint  (transomref03_ReadUint.s0 k) (transomref03_ReadUint.s1 k) (transomref03_ReadUint.s2 k) (transomref03_ReadUint.s3 k) (transomref03_ReadUint.s4 k) (transomref03_ReadUint.s5 k)).segs, SegOK (env_transomref03_ReadUint  (transomref03_ReadUint.s0 k) (transomref03_ReadUint.s1 k) (transomref03_ReadUint.s2 k) (transomref03_ReadUint.s3 k) (transomref03_ReadUint.s4 k) (transomref03_ReadUint.s5 k)) Go.Proofs.Try.f29 s
  | 0 => by
    intro s hs
    simp only [env_transomref03_ReadUint, List.mem_cons, List.not_mem_nil, or_false] at hs
    rcases hs with rfl | rfl | rfl | rfl | rfl | rfl
    · intro tvs blks res h; exfalso; simp only [seg_transomref03_ReadUint_0] at h; split at h <;> simp [transomref03_ReadUint.s0] at h
    · intro tvs blks res h; exfalso; simp only [seg_transomref03_ReadUint_1] at h; split at h <;> simp [transomref03_ReadUint.s1] at h
    · intro tvs blks res h; exfalso; simp only [seg_transomref03_ReadUint_2] at h; split at h <;> simp [transomref03_ReadUint.s2] at h
    · intro tvs blks res h; exfalso; simp only [seg_transomref03_ReadUint_3] at h; split at h <;> simp [transomref03_ReadUint.s3] at h
    · intro tvs blks res h; exfalso; simp only [seg_transomref03_ReadUint_4] at h; split at h <;> simp [transomref03_ReadUint.s4] at h
    · intro tvs blks res h; exfalso; simp only [seg_transomref03_ReadUint_5] at h; split at h <;> simp [transomref03_ReadUint.s5] at h
  | k + 1 => by
    have ih := transomref03_ReadUint.segs_ok k
    intro s hs
    simp only [env_transomref03_ReadUint, List.mem_cons, List.not_mem_nil, or_false] at hs
    rcases hs with rfl | rfl | rfl | rfl | rfl | rfl
    · refine seg_of_ev (E := env_transomref03_ReadUint  (transomref03_ReadUint.s0 k) (transomref03_ReadUint.s1 k) (transomref03_ReadUint.s2 k) (transomref03_ReadUint.s3 k) (transomref03_ReadUint.s4 k) (transomref03_ReadUint.s5 k)) (transomref03_ReadUint.envok _ _ _ _ _ _  ) ⟨(transomref03_ReadUint.is  (transomref03_ReadUint.s0 k) (transomref03_ReadUint.s1 k) (transomref03_ReadUint.s2 k) (transomref03_ReadUint.s3 k) (transomref03_ReadUint.s4 k) (transomref03_ReadUint.s5 k)).rvs⟩ ih ?_
      intro tvs blks res h
      simp only [seg_transomref03_ReadUint_0] at h
      split at h
      · refine (transomref03_ReadUint.s0_ev  (transomref03_ReadUint.s0 k) (transomref03_ReadUint.s1 k) (transomref03_ReadUint.s2 k) (transomref03_ReadUint.s3 k) (transomref03_ReadUint.s4 k) (transomref03_ReadUint.s5 k) _ _ _ ).trans ?_
        rw [transomref03_ReadUint.s0c_bind]
        exact h
      · simp at h
    · refine seg_of_ev (E := env_transomref03_ReadUint  (transomref03_ReadUint.s0 k) (transomref03_ReadUint.s1 k) (transomref03_ReadUint.s2 k) (transomref03_ReadUint.s3 k) (transomref03_ReadUint.s4 k) (transomref03_ReadUint.s5 k)) (transomref03_ReadUint.envok _ _ _ _ _ _  ) ⟨(transomref03_ReadUint.is  (transomref03_ReadUint.s0 k) (transomref03_ReadUint.s1 k) (transomref03_ReadUint.s2 k) (transomref03_ReadUint.s3 k) (transomref03_ReadUint.s4 k) (transomref03_ReadUint.s5 k)).rvs⟩ ih ?_
      intro tvs blks res h
      simp only [seg_transomref03_ReadUint_1] at h
      split at h
      · refine (transomref03_ReadUint.s1_ev  (transomref03_ReadUint.s0 k) (transomref03_ReadUint.s1 k) (transomref03_ReadUint.s2 k) (transomref03_ReadUint.s3 k) (transomref03_ReadUint.s4 k) (transomref03_ReadUint.s5 k) _ _ _ _ _ ).trans ?_
        rw [transomref03_ReadUint.s1c_bind]
        exact h
      · simp at h
    · refine seg_of_ev (E := env_transomref03_ReadUint  (transomref03_ReadUint.s0 k) (transomref03_ReadUint.s1 k) (transomref03_ReadUint.s2 k) (transomref03_ReadUint.s3 k) (transomref03_ReadUint.s4 k) (transomref03_ReadUint.s5 k)) (transomref03_ReadUint.envok _ _ _ _ _ _  ) ⟨(transomref03_ReadUint.is  (transomref03_ReadUint.s0 k) (transomref03_ReadUint.s1 k) (transomref03_ReadUint.s2 k) (transomref03_ReadUint.s3 k) (transomref03_ReadUint.s4 k) (transomref03_ReadUint.s5 k)).rvs⟩ ih ?_
      intro tvs blks res h
      simp only [seg_transomref03_ReadUint_2] at h
      split at h
      · refine (transomref03_ReadUint.s2_ev  (transomref03_ReadUint.s0 k) (transomref03_ReadUint.s1 k) (transomref03_ReadUint.s2 k) (transomref03_ReadUint.s3 k) (transomref03_ReadUint.s4 k) (transomref03_ReadUint.s5 k) _ _ _ _ ).trans ?_
        rw [transomref03_ReadUint.s2c_bind]
        exact h
      · simp at h
    · refine seg_of_ev (E := env_transomref03_ReadUint  (transomref03_ReadUint.s0 k) (transomref03_ReadUint.s1 k) (transomref03_ReadUint.s2 k) (transomref03_ReadUint.s3 k) (transomref03_ReadUint.s4 k) (transomref03_ReadUint.s5 k)) (transomref03_ReadUint.envok _ _ _ _ _ _  ) ⟨(transomref03_ReadUint.is  (transomref03_ReadUint.s0 k) (transomref03_ReadUint.s1 k) (transomref03_ReadUint.s2 k) (transomref03_ReadUint.s3 k) (transomref03_ReadUint.s4 k) (transomref03_ReadUint.s5 k)).rvs⟩ ih ?_
      intro tvs blks res h
      simp only [seg_transomref03_ReadUint_3] at h
      split at h
      · refine (transomref03_ReadUint.s3_ev  (transomref03_ReadUint.s0 k) (transomref03_ReadUint.s1 k) (transomref03_ReadUint.s2 k) (transomref03_ReadUint.s3 k) (transomref03_ReadUint.s4 k) (transomref03_ReadUint.s5 k) _ _ _ _ ).trans ?_
        rw [transomref03_ReadUint.s3c_bind]
        exact h
      · simp at h
    · refine seg_of_ev (E := env_transomref03_ReadUint  (transomref03_ReadUint.s0 k) (transomref03_ReadUint.s1 k) (transomref03_ReadUint.s2 k) (transomref03_ReadUint.s3 k) (transomref03_ReadUint.s4 k) (transomref03_ReadUint.s5 k)) (transomref03_ReadUint.envok _ _ _ _ _ _  ) ⟨(transomref03_ReadUint.is  (transomref03_ReadUint.s0 k) (transomref03_ReadUint.s1 k) (transomref03_ReadUint.s2 k) (transomref03_ReadUint.s3 k) (transomref03_ReadUint.s4 k) (transomref03_ReadUint.s5 k)).rvs⟩ ih ?_
      intro tvs blks res h
      simp only [seg_transomref03_ReadUint_4] at h
      split at h
      · refine (transomref03_ReadUint.s4_ev  (transomref03_ReadUint.s0 k) (transomref03_ReadUint.s1 k) (transomref03_ReadUint.s2 k) (transomref03_ReadUint.s3 k) (transomref03_ReadUint.s4 k) (transomref03_ReadUint.s5 k) _ _ _ ).trans ?_
        rw [transomref03_ReadUint.s4c_bind]
        exact h
      · simp at h
    · refine seg_of_ev (E := env_transomref03_ReadUint  (transomref03_ReadUint.s0 k) (transomref03_ReadUint.s1 k) (transomref03_ReadUint.s2 k) (transomref03_ReadUint.s3 k) (transomref03_ReadUint.s4 k) (transomref03_ReadUint.s5 k)) (transomref03_ReadUint.envok _ _ _ _ _ _  ) ⟨(transomref03_ReadUint.is  (transomref03_ReadUint.s0 k) (transomref03_ReadUint.s1 k) (transomref03_ReadUint.s2 k) (transomref03_ReadUint.s3 k) (transomref03_ReadUint.s4 k) (transomref03_ReadUint.s5 k)).rvs⟩ ih ?_
      intro tvs blks res h
      simp only [seg_transomref03_ReadUint_5] at h
      split at h
      · refine (transomref03_ReadUint.s5_ev  (transomref03_ReadUint.s0 k) (transomref03_ReadUint.s1 k) (transomref03_ReadUint.s2 k) (transomref03_ReadUint.s3 k) (transomref03_ReadUint.s4 k) (transomref03_ReadUint.s5 k) _ _ _ ).trans ?_
        rw [transomref03_ReadUint.s5c_bind]
        exact h
      · simp at h
theorem transomref03_ReadUint.ok (k : Nat) : CtOK Go.Proofs.Try.prog 29 (ct_transomref03_ReadUint (transomref03_ReadUint.f k)) := by
  refine ct_of_ev (E := env_transomref03_ReadUint  (transomref03_ReadUint.s0 k) (transomref03_ReadUint.s1 k) (transomref03_ReadUint.s2 k) (transomref03_ReadUint.s3 k) (transomref03_ReadUint.s4 k) (transomref03_ReadUint.s5 k)) (transomref03_ReadUint.is _ _ _ _ _ _ ) (transomref03_ReadUint.envok _ _ _ _ _ _  ) (transomref03_ReadUint.segs_ok k) rfl ?_
  intro tvs blks res h
  simp only [ct_transomref03_ReadUint] at h
  split at h
  · refine (transomref03_ReadUint.ev  (transomref03_ReadUint.s0 k) (transomref03_ReadUint.s1 k) (transomref03_ReadUint.s2 k) (transomref03_ReadUint.s3 k) (transomref03_ReadUint.s4 k) (transomref03_ReadUint.s5 k) _ ).trans ?_
    rw [transomref03_ReadUint.c_bind]
    exact h
  · simp at h

/-! ### transomref03_ReadInt: function 51 -/
def ct_transomref03_ReadInt (g : ByteArray → Option (Int × ByteArray × Int)) : Ct where
  nin := 0
  mv := []
  F := fun tvs blks {β} K => match tvs, blks with
    | [.v (.one (.d .str a0))], [] => (g a0).bind fun r => K ⟨.tup [(.one (.d (.int .i64) r.1)), (.one (.d .str r.2.1)), (.one (.d (.int .i64) r.2.2))], []⟩
    | _, _ => none
  legit := fun tvs blks K r h => by
    split at h
    · obtain ⟨x, hx, hk⟩ := Option.bind_eq_some_iff.1 h
      refine ⟨_, ?_, hk⟩
      simp only [hx, Option.bind_some]
    · simp at h
noncomputable def env_transomref03_ReadInt (g29 : ByteArray → Option (Int × ByteArray × Int))  : FEnv := { P := Go.Proofs.Try.prog, ct := fun m => if m = 29 then some (ct_transomref03_ReadUint g29) else none, N := 30, body := Go.Proofs.Try.f51.body.getD .skip, rvs := [.tmp 2, .tmp 3, .tmp 4], rts := [3, 9, 3], nin := 0, rmv := [], segs := [] }
def transomref03_ReadInt.c {β : Type} (g29 : ByteArray → Option (Int × ByteArray × Int))  (a0 : ByteArray) (ret : (Int × ByteArray × Int) → Option β) : Option β := ((g29 a0).bind fun r0 => (bif (r0.2.2 != (0 : Int)) then (ret ((0 : Int), (ByteArray.mk (List.toArray [])), r0.2.2)) else (bif ((Int.tmod r0.1 (2 : Int)) == (1 : Int)) then (ret ((IntKind.wrap IntKind.i64 ((IntKind.wrap IntKind.i64 ((0 : Int) - (IntKind.wrap IntKind.i64 (IntKind.wrap IntKind.u64 (Int.tdiv r0.1 (2 : Int)))))) - (1 : Int))), r0.2.1, (0 : Int))) else (ret ((IntKind.wrap IntKind.i64 (IntKind.wrap IntKind.u64 (Int.tdiv r0.1 (2 : Int)))), r0.2.1, (0 : Int))))))
theorem transomref03_ReadInt.c_bind {β : Type} (g29 : ByteArray → Option (Int × ByteArray × Int))  (a0 : ByteArray) (ret : (Int × ByteArray × Int) → Option β) : transomref03_ReadInt.c g29  a0 ret = (transomref03_ReadInt.c g29  a0 some).bind ret := by
  simp only [transomref03_ReadInt.c, bif_bind, sum_bind, Option.bind_assoc, Option.bind_some, Option.bind_none, Option.bind_fun_some]
theorem transomref03_ReadInt.ev (g29 : ByteArray → Option (Int × ByteArray × Int))  (a0 : ByteArray) : evAt (env_transomref03_ReadInt g29 ) [] [0] [.v (.one (.d .str a0))] [] some = transomref03_ReadInt.c g29  a0 (fun r => some ⟨.tup [(.one (.d (.int .i64) r.1)), (.one (.d .str r.2.1)), (.one (.d (.int .i64) r.2.2))], []⟩) := by
  kernel_rfl
def transomref03_ReadInt.f (k : Nat) (a0 : ByteArray) : Option (Int × ByteArray × Int) := transomref03_ReadInt.c (transomref03_ReadUint.f k)  a0 some
theorem transomref03_ReadInt.is (g29 : ByteArray → Option (Int × ByteArray × Int))  : FnIs (env_transomref03_ReadInt g29 ) 51 Go.Proofs.Try.f51 := ⟨Go.Proofs.Try.func51, rfl, rfl, rfl, by decide⟩
theorem transomref03_ReadInt.envok (g29 : ByteArray → Option (Int × ByteArray × Int))  (h29 : CtOK Go.Proofs.Try.prog 29 (ct_transomref03_ReadUint g29)) : EnvOK (env_transomref03_ReadInt g29 ).toEnv := by
  intro f c h
  simp only [env_transomref03_ReadInt] at h
  split at h
  · rename_i e; subst e; cases h; exact h29
  simp at h
theorem transomref03_ReadInt.ok (k : Nat) : CtOK Go.Proofs.Try.prog 51 (ct_transomref03_ReadInt (transomref03_ReadInt.f k)) := by
  refine ct_of_ev (E := env_transomref03_ReadInt (transomref03_ReadUint.f k) ) (transomref03_ReadInt.is _ ) (transomref03_ReadInt.envok _  (transomref03_ReadUint.ok k)) (fun s hs => by simp [env_transomref03_ReadInt] at hs) rfl ?_
  intro tvs blks res h
  simp only [ct_transomref03_ReadInt] at h
  split at h
  · refine (transomref03_ReadInt.ev (transomref03_ReadUint.f k)  _ ).trans ?_
    rw [transomref03_ReadInt.c_bind]
    exact h
  · simp at h

/-! ### transomref05_Number: function 52 -/
def ct_transomref05_Number (g : ByteArray → Option Int) : Ct where
  nin := 0
  mv := []
  F := fun tvs blks {β} K => match tvs, blks with
    | [.v (.one (.d .str a0))], [] => (g a0).bind fun r => K ⟨.v (.one (.d (.int .u64) r)), []⟩
    | _, _ => none
  legit := fun tvs blks K r h => by
    split at h
    · obtain ⟨x, hx, hk⟩ := Option.bind_eq_some_iff.1 h
      refine ⟨_, ?_, hk⟩
      simp only [hx, Option.bind_some]
    · simp at h
def seg_transomref05_Number_0 (g : ByteArray → Int → Int → Option Int) : Seg where
  path := [4, 1, 0, 1, 1]
  prep := []
  keep := [0, 3, 4]
  F := fun tvs blks {β} K => match tvs, blks with
    | [.v (.one (.d .str x0)), .v (.one (.d (.int .u64) x1)), .v (.one (.d (.int .i64) x2))], [] => (g x0 x1 x2).bind fun r => K ⟨.v (.one (.d (.int .u64) r)), []⟩
    | _, _ => none
  legit := fun tvs blks K r h => by
    split at h
    · obtain ⟨x, hx, hk⟩ := Option.bind_eq_some_iff.1 h
      refine ⟨_, ?_, hk⟩
      simp only [hx, Option.bind_some]
    · simp at h
noncomputable def env_transomref05_Number  (s0 : ByteArray → Int → Int → Option Int) : FEnv := { P := Go.Proofs.Try.prog, ct := fun m => none, N := 17, body := Go.Proofs.Try.f52.body.getD .skip, rvs := [.tmp 2], rts := [43], nin := 0, rmv := [], segs := [seg_transomref05_Number_0 s0] }
def transomref05_Number.c {β : Type}  (s0 : ByteArray → Int → Int → Option Int) (a0 : ByteArray) (ret : Int → Option β) : Option β := ((s0 a0 (0 : Int) (0 : Int)).bind ret)
def transomref05_Number.s0c {β : Type}  (s0 : ByteArray → Int → Int → Option Int) (x0 : ByteArray) (x1 : Int) (x2 : Int) (ret : Int → Option β) : Option β := (bif (decide (x2 < (8 : Int))) then (bif ((decide ((0 : Int) ≤ x2)) && (decide (x2 < ((ByteArray.size x0) : Int)))) then ((s0 x0 (IntKind.wrap IntKind.u64 ((BitVec.toNat ((BitVec.ofInt (64 : Nat) (IntKind.wrap IntKind.u64 (x1 * (256 : Int)))) ||| (BitVec.ofInt (64 : Nat) (IntKind.wrap IntKind.u64 (bt x0 x2))))) : Int)) (IntKind.wrap IntKind.i64 (x2 + (1 : Int)))).bind ret) else none) else (ret (x1)))
theorem transomref05_Number.c_bind {β : Type}  (s0 : ByteArray → Int → Int → Option Int) (a0 : ByteArray) (ret : Int → Option β) : transomref05_Number.c  s0 a0 ret = (transomref05_Number.c  s0 a0 some).bind ret := by
  simp only [transomref05_Number.c, bif_bind, sum_bind, Option.bind_assoc, Option.bind_some, Option.bind_none, Option.bind_fun_some]
theorem transomref05_Number.s0c_bind {β : Type}  (s0 : ByteArray → Int → Int → Option Int) (x0 : ByteArray) (x1 : Int) (x2 : Int) (ret : Int → Option β) : transomref05_Number.s0c  s0 x0 x1 x2 ret = (transomref05_Number.s0c  s0 x0 x1 x2 some).bind ret := by
  simp only [transomref05_Number.s0c, bif_bind, sum_bind, Option.bind_assoc, Option.bind_some, Option.bind_none, Option.bind_fun_some]
theorem transomref05_Number.ev  (s0 : ByteArray → Int → Int → Option Int) (a0 : ByteArray) : evAt (env_transomref05_Number  s0) [] [0] [.v (.one (.d .str a0))] [] some = transomref05_Number.c  s0 a0 (fun r => some ⟨.v (.one (.d (.int .u64) r)), []⟩) := by
  kernel_rfl
theorem transomref05_Number.s0_ev  (s0 : ByteArray → Int → Int → Option Int) (x0 : ByteArray) (x1 : Int) (x2 : Int) : evAt (env_transomref05_Number  s0) [4, 1, 0, 1, 1] [0, 3, 4] [.v (.one (.d .str x0)), .v (.one (.d (.int .u64) x1)), .v (.one (.d (.int .i64) x2))] [] some = transomref05_Number.s0c  s0 x0 x1 x2 (fun r => some ⟨.v (.one (.d (.int .u64) r)), []⟩) := by
  kernel_rfl
def transomref05_Number.s0 : Nat → ByteArray → Int → Int → Option Int
  | 0, _, _, _ => none
  | k + 1, x0, x1, x2 => transomref05_Number.s0c  (transomref05_Number.s0 k) x0 x1 x2 some
def transomref05_Number.f (k : Nat) (a0 : ByteArray) : Option Int := transomref05_Number.c  (transomref05_Number.s0 k) a0 some
theorem transomref05_Number.is  (s0 : ByteArray → Int → Int → Option Int) : FnIs (env_transomref05_Number  s0) 52 Go.Proofs.Try.f52 := ⟨Go.Proofs.Try.func52, rfl, rfl, rfl, by decide⟩
theorem transomref05_Number.envok  (s0 : ByteArray → Int → Int → Option Int)  : EnvOK (env_transomref05_Number  s0).toEnv := by
  intro f c h
  simp only [env_transomref05_Number] at h
  simp at h
theorem transomref05_Number.segs_ok : ∀ k, ∀ s ∈ (env_transomref05_Number  (transomref05_Number.s0 k)).segs, SegOK (env_transomref05_Number  (transomref05_Number.s0 k)) Go.Proofs.Try.f52 s
  | 0 => by
    intro s hs
    simp only [env_transomref05_Number, List.mem_cons, List.not_mem_nil, or_false] at hs
    rcases hs with rfl
    · intro tvs blks res h; exfalso; simp only [seg_transomref05_Number_0] at h; split at h <;> simp [transomref05_Number.s0] at h
  | k + 1 => by
    have ih := transomref05_Number.segs_ok k
    intro s hs
    simp only [env_transomref05_Number, List.mem_cons, List.not_mem_nil, or_false] at hs
    rcases hs with rfl
    · refine seg_of_ev (E := env_transomref05_Number  (transomref05_Number.s0 k)) (transomref05_Number.envok _  ) ⟨(transomref05_Number.is  (transomref05_Number.s0 k)).rvs⟩ ih ?_
      intro tvs blks res h
      simp only [seg_transomref05_Number_0] at h
      split at h
      · refine (transomref05_Number.s0_ev  (transomref05_Number.s0 k) _ _ _ ).trans ?_
        rw [transomref05_Number.s0c_bind]
        exact h
      · simp at h
theorem transomref05_Number.ok (k : Nat) : CtOK Go.Proofs.Try.prog 52 (ct_transomref05_Number (transomref05_Number.f k)) := by
  refine ct_of_ev (E := env_transomref05_Number  (transomref05_Number.s0 k)) (transomref05_Number.is _ ) (transomref05_Number.envok _  ) (transomref05_Number.segs_ok k) rfl ?_
  intro tvs blks res h
  simp only [ct_transomref05_Number] at h
  split at h
  · refine (transomref05_Number.ev  (transomref05_Number.s0 k) _ ).trans ?_
    rw [transomref05_Number.c_bind]
    exact h
  · simp at h

/-! ### transomref03_ReadText: function 53 -/
def ct_transomref03_ReadText (g : ByteArray → Option (ByteArray × ByteArray × Int)) : Ct where
  nin := 0
  mv := []
  F := fun tvs blks {β} K => match tvs, blks with
    | [.v (.one (.d .str a0))], [] => (g a0).bind fun r => K ⟨.tup [(.one (.d .str r.1)), (.one (.d .str r.2.1)), (.one (.d (.int .i64) r.2.2))], []⟩
    | _, _ => none
  legit := fun tvs blks K r h => by
    split at h
    · obtain ⟨x, hx, hk⟩ := Option.bind_eq_some_iff.1 h
      refine ⟨_, ?_, hk⟩
      simp only [hx, Option.bind_some]
    · simp at h
noncomputable def env_transomref03_ReadText (g29 : ByteArray → Option (Int × ByteArray × Int))  : FEnv := { P := Go.Proofs.Try.prog, ct := fun m => if m = 29 then some (ct_transomref03_ReadUint g29) else none, N := 28, body := Go.Proofs.Try.f53.body.getD .skip, rvs := [.tmp 2, .tmp 3, .tmp 4], rts := [9, 9, 3], nin := 0, rmv := [], segs := [] }
def transomref03_ReadText.c {β : Type} (g29 : ByteArray → Option (Int × ByteArray × Int))  (a0 : ByteArray) (ret : (ByteArray × ByteArray × Int) → Option β) : Option β := ((g29 a0).bind fun r0 => (bif (r0.2.2 != (0 : Int)) then (ret ((ByteArray.mk (List.toArray [])), (ByteArray.mk (List.toArray [])), r0.2.2)) else (bif (decide (r0.1 > (IntKind.wrap IntKind.u64 ((ByteArray.size r0.2.1) : Int)))) then (ret ((ByteArray.mk (List.toArray [])), (ByteArray.mk (List.toArray [])), (3 : Int))) else (bif ((true && (decide ((0 : Int) ≤ r0.1))) && (decide (r0.1 ≤ ((ByteArray.size r0.2.1) : Int)))) then (bif (((decide ((0 : Int) ≤ r0.1)) && (decide (r0.1 ≤ ((ByteArray.size r0.2.1) : Int)))) && (decide (((ByteArray.size r0.2.1) : Int) ≤ ((ByteArray.size r0.2.1) : Int)))) then (ret ((ByteArray.extract r0.2.1 (0 : Nat) (Int.toNat r0.1)), (ByteArray.extract r0.2.1 (Int.toNat r0.1) (Int.toNat ((ByteArray.size r0.2.1) : Int))), (0 : Int))) else none) else none))))
theorem transomref03_ReadText.c_bind {β : Type} (g29 : ByteArray → Option (Int × ByteArray × Int))  (a0 : ByteArray) (ret : (ByteArray × ByteArray × Int) → Option β) : transomref03_ReadText.c g29  a0 ret = (transomref03_ReadText.c g29  a0 some).bind ret := by
  simp only [transomref03_ReadText.c, bif_bind, sum_bind, Option.bind_assoc, Option.bind_some, Option.bind_none, Option.bind_fun_some]
theorem transomref03_ReadText.ev (g29 : ByteArray → Option (Int × ByteArray × Int))  (a0 : ByteArray) : evAt (env_transomref03_ReadText g29 ) [] [0] [.v (.one (.d .str a0))] [] some = transomref03_ReadText.c g29  a0 (fun r => some ⟨.tup [(.one (.d .str r.1)), (.one (.d .str r.2.1)), (.one (.d (.int .i64) r.2.2))], []⟩) := by
  kernel_rfl
def transomref03_ReadText.f (k : Nat) (a0 : ByteArray) : Option (ByteArray × ByteArray × Int) := transomref03_ReadText.c (transomref03_ReadUint.f k)  a0 some
theorem transomref03_ReadText.is (g29 : ByteArray → Option (Int × ByteArray × Int))  : FnIs (env_transomref03_ReadText g29 ) 53 Go.Proofs.Try.f53 := ⟨Go.Proofs.Try.func53, rfl, rfl, rfl, by decide⟩
theorem transomref03_ReadText.envok (g29 : ByteArray → Option (Int × ByteArray × Int))  (h29 : CtOK Go.Proofs.Try.prog 29 (ct_transomref03_ReadUint g29)) : EnvOK (env_transomref03_ReadText g29 ).toEnv := by
  intro f c h
  simp only [env_transomref03_ReadText] at h
  split at h
  · rename_i e; subst e; cases h; exact h29
  simp at h
theorem transomref03_ReadText.ok (k : Nat) : CtOK Go.Proofs.Try.prog 53 (ct_transomref03_ReadText (transomref03_ReadText.f k)) := by
  refine ct_of_ev (E := env_transomref03_ReadText (transomref03_ReadUint.f k) ) (transomref03_ReadText.is _ ) (transomref03_ReadText.envok _  (transomref03_ReadUint.ok k)) (fun s hs => by simp [env_transomref03_ReadText] at hs) rfl ?_
  intro tvs blks res h
  simp only [ct_transomref03_ReadText] at h
  split at h
  · refine (transomref03_ReadText.ev (transomref03_ReadUint.f k)  _ ).trans ?_
    rw [transomref03_ReadText.c_bind]
    exact h
  · simp at h
end Go.Proofs.Ytlclhjdfbkenfaa.Aev
