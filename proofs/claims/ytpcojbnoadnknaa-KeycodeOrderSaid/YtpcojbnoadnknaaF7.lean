/- By a program of this session (AEV): functions of the program as plain functions, and that the machine does what they say. -/
import Derived.Test.YtpcojbnoadnknaaAevW
import Derived.Test.YtpcojbnoadnknaaProg
import Derived.Laws.Externs
import Derived.Lib.Bytealg
import Derived.Test.YtpcojbnoadnknaaF3
import Derived.Test.YtpcojbnoadnknaaF4
import Derived.Test.YtpcojbnoadnknaaF6
namespace Go.Proofs.Ytpcojbnoadnknaa.Aev
set_option linter.unusedVariables false
set_option linter.unusedSimpArgs false
set_option maxRecDepth 100000
set_option maxHeartbeats 4000000
open Go
/-! ### transomref05_Read: function 10 -/
def ct_transomref05_Read (g : ByteArray → Option (Int × Int × Int × ByteArray × ByteArray × Int)) : Ct where
  nin := 0
  mv := []
  F := fun tvs blks {β} K => match tvs, blks with
    | [.v (.one (.d .str a0))], [] => (g a0).bind fun r => K ⟨.tup [(.agg [(.d (.int .i64) r.1), (.d (.int .i64) r.2.1), (.d (.int .u64) r.2.2.1), (.d .str r.2.2.2.1)]), (.one (.d .str r.2.2.2.2.1)), (.one (.d (.int .i64) r.2.2.2.2.2))], []⟩
    | _, _ => none
  legit := fun tvs blks K r h => by
    split at h
    · obtain ⟨x, hx, hk⟩ := Option.bind_eq_some_iff.1 h
      refine ⟨_, ?_, hk⟩
      simp only [hx, Option.bind_some]
    · simp at h
def seg_transomref05_Read_0 (g : ByteArray → ByteArray → Bool → Bool → Int → Int → Int → ByteArray → Int → Int → Int → ByteArray → Option (Int × Int × Int × ByteArray × ByteArray × Int)) : Seg where
  path := [1, 3, 1, 3, 1, 3, 1, 4, 1, 0, 1, 1, 1, 1, 1, 1, 1, 1]
  prep := []
  keep := [0, 2, 5, 6, 7, 65]
  F := fun tvs blks {β} K => match tvs, blks with
    | [.v (.one (.d .str x0)), .v (.one (.ptr 0 0)), .v (.one (.ptr 1 0)), .v (.one (.d .str x1)), .v (.one (.d .bool x2)), .v (.one (.d .bool x3))], [some (.box [(.d (.int .i64) x4), (.d (.int .i64) x5), (.d (.int .u64) x6), (.d .str x7)]), some (.box [(.d (.int .i64) x8), (.d (.int .i64) x9), (.d (.int .u64) x10), (.d .str x11)])] => (g x0 x1 x2 x3 x4 x5 x6 x7 x8 x9 x10 x11).bind fun r => K ⟨.tup [(.agg [(.d (.int .i64) r.1), (.d (.int .i64) r.2.1), (.d (.int .u64) r.2.2.1), (.d .str r.2.2.2.1)]), (.one (.d .str r.2.2.2.2.1)), (.one (.d (.int .i64) r.2.2.2.2.2))], []⟩
    | _, _ => none
  legit := fun tvs blks K r h => by
    split at h
    · obtain ⟨x, hx, hk⟩ := Option.bind_eq_some_iff.1 h
      refine ⟨_, ?_, hk⟩
      simp only [hx, Option.bind_some]
    · simp at h
def seg_transomref05_Read_1 (g : ByteArray → Bool → Int → Int → Int → ByteArray → Int → Int → Int → ByteArray → Option (Int × Int × Int × ByteArray × ByteArray × Int)) : Seg where
  path := [1, 1, 1, 1, 1, 1, 1, 1, 1]
  prep := []
  keep := [2, 5, 6, 7]
  F := fun tvs blks {β} K => match tvs, blks with
    | [.v (.one (.ptr 0 0)), .v (.one (.ptr 1 0)), .v (.one (.d .str x0)), .v (.one (.d .bool x1))], [some (.box [(.d (.int .i64) x2), (.d (.int .i64) x3), (.d (.int .u64) x4), (.d .str x5)]), some (.box [(.d (.int .i64) x6), (.d (.int .i64) x7), (.d (.int .u64) x8), (.d .str x9)])] => (g x0 x1 x2 x3 x4 x5 x6 x7 x8 x9).bind fun r => K ⟨.tup [(.agg [(.d (.int .i64) r.1), (.d (.int .i64) r.2.1), (.d (.int .u64) r.2.2.1), (.d .str r.2.2.2.1)]), (.one (.d .str r.2.2.2.2.1)), (.one (.d (.int .i64) r.2.2.2.2.2))], []⟩
    | _, _ => none
  legit := fun tvs blks K r h => by
    split at h
    · obtain ⟨x, hx, hk⟩ := Option.bind_eq_some_iff.1 h
      refine ⟨_, ?_, hk⟩
      simp only [hx, Option.bind_some]
    · simp at h
noncomputable def env_transomref05_Read (g30 : Int → Option Int) (g31 : ByteArray → Option Int) (g32 : Int → Option (Int × Bool)) (g33 : ByteArray → Option (ByteArray × ByteArray × Int)) (g34 : Int → Int → Int → ByteArray → Option Int) (s0 : ByteArray → ByteArray → Bool → Bool → Int → Int → Int → ByteArray → Int → Int → Int → ByteArray → Option (Int × Int × Int × ByteArray × ByteArray × Int)) (s1 : ByteArray → Bool → Int → Int → Int → ByteArray → Int → Int → Int → ByteArray → Option (Int × Int × Int × ByteArray × ByteArray × Int)) : FEnv := { P := Go.Proofs.Try.prog, ct := fun m => if m = 30 then some (ct_transomref05_fixed g30) else if m = 31 then some (ct_transomref05_Number g31) else if m = 32 then some (ct_transomref02_Back g32) else if m = 33 then some (ct_transomref05_plain g33) else if m = 34 then some (ct_transomref04_Check g34) else none, N := 91, body := Go.Proofs.Try.f10.body.getD .skip, rvs := [.cell 2 25, .tmp 3, .tmp 4], rts := [25, 9, 3], nin := 0, rmv := [], segs := [seg_transomref05_Read_0 s0, seg_transomref05_Read_1 s1] }
def transomref05_Read.c {β : Type} (g30 : Int → Option Int) (g31 : ByteArray → Option Int) (g32 : Int → Option (Int × Bool)) (g33 : ByteArray → Option (ByteArray × ByteArray × Int)) (g34 : Int → Int → Int → ByteArray → Option Int) (s0 : ByteArray → ByteArray → Bool → Bool → Int → Int → Int → ByteArray → Int → Int → Int → ByteArray → Option (Int × Int × Int × ByteArray × ByteArray × Int)) (s1 : ByteArray → Bool → Int → Int → Int → ByteArray → Int → Int → Int → ByteArray → Option (Int × Int × Int × ByteArray × ByteArray × Int)) (a0 : ByteArray) (ret : (Int × Int × Int × ByteArray × ByteArray × Int) → Option β) : Option β := (bif (((ByteArray.size a0) : Int) == (0 : Int)) then (ret ((0 : Int), (0 : Int), (0 : Int), (ByteArray.mk (List.toArray [])), (ByteArray.mk (List.toArray [])), (3 : Int))) else (bif (true && (decide ((0 : Int) < ((ByteArray.size a0) : Int)))) then (bif (decide ((IntKind.wrap IntKind.i64 (bt a0 (0 : Int))) > (5 : Int))) then (ret ((0 : Int), (0 : Int), (0 : Int), (ByteArray.mk (List.toArray [])), (ByteArray.mk (List.toArray [])), (4 : Int))) else (bif ((true && (decide ((1 : Int) ≤ ((ByteArray.size a0) : Int)))) && (decide (((ByteArray.size a0) : Int) ≤ ((ByteArray.size a0) : Int)))) then ((g30 (IntKind.wrap IntKind.i64 (bt a0 (0 : Int)))).bind fun r0 => (bif (decide (((ByteArray.size (ByteArray.extract a0 (1 : Nat) (Int.toNat ((ByteArray.size a0) : Int)))) : Int) < r0)) then (ret ((0 : Int), (0 : Int), (0 : Int), (ByteArray.mk (List.toArray [])), (ByteArray.mk (List.toArray [])), (3 : Int))) else ((g30 (IntKind.wrap IntKind.i64 (bt a0 (0 : Int)))).bind fun r1 => (bif (((decide ((0 : Int) ≤ r1)) && (decide (r1 ≤ ((ByteArray.size (ByteArray.extract a0 (1 : Nat) (Int.toNat ((ByteArray.size a0) : Int)))) : Int)))) && (decide (((ByteArray.size (ByteArray.extract a0 (1 : Nat) (Int.toNat ((ByteArray.size a0) : Int)))) : Int) ≤ ((ByteArray.size (ByteArray.extract a0 (1 : Nat) (Int.toNat ((ByteArray.size a0) : Int)))) : Int)))) then (bif ((IntKind.wrap IntKind.i64 (bt a0 (0 : Int))) == (1 : Int)) then (bif (true && (decide ((0 : Int) < ((ByteArray.size (ByteArray.extract a0 (1 : Nat) (Int.toNat ((ByteArray.size a0) : Int)))) : Int)))) then ((s1 (ByteArray.extract (ByteArray.extract a0 (1 : Nat) (Int.toNat ((ByteArray.size a0) : Int))) (Int.toNat r1) (Int.toNat ((ByteArray.size (ByteArray.extract a0 (1 : Nat) (Int.toNat ((ByteArray.size a0) : Int)))) : Int))) true (0 : Int) (0 : Int) (0 : Int) (ByteArray.mk (List.toArray [])) (IntKind.wrap IntKind.i64 (bt a0 (0 : Int))) (IntKind.wrap IntKind.i64 (bt (ByteArray.extract a0 (1 : Nat) (Int.toNat ((ByteArray.size a0) : Int))) (0 : Int))) (0 : Int) (ByteArray.mk (List.toArray []))).bind ret) else none) else (bif ((IntKind.wrap IntKind.i64 (bt a0 (0 : Int))) == (2 : Int)) then ((g31 (ByteArray.extract a0 (1 : Nat) (Int.toNat ((ByteArray.size a0) : Int)))).bind fun r2 => ((s1 (ByteArray.extract (ByteArray.extract a0 (1 : Nat) (Int.toNat ((ByteArray.size a0) : Int))) (Int.toNat r1) (Int.toNat ((ByteArray.size (ByteArray.extract a0 (1 : Nat) (Int.toNat ((ByteArray.size a0) : Int)))) : Int))) true (0 : Int) (0 : Int) (0 : Int) (ByteArray.mk (List.toArray [])) (IntKind.wrap IntKind.i64 (bt a0 (0 : Int))) (IntKind.wrap IntKind.i64 (IntKind.wrap IntKind.u64 ((BitVec.toNat ((BitVec.ofInt (64 : Nat) r2) ^^^ (BitVec.ofInt (64 : Nat) (9223372036854775808 : Int)))) : Int))) (0 : Int) (ByteArray.mk (List.toArray []))).bind ret)) else (bif ((IntKind.wrap IntKind.i64 (bt a0 (0 : Int))) == (3 : Int)) then ((g31 (ByteArray.extract a0 (1 : Nat) (Int.toNat ((ByteArray.size a0) : Int)))).bind fun r3 => ((g32 r3).bind fun r4 => ((s1 (ByteArray.extract (ByteArray.extract a0 (1 : Nat) (Int.toNat ((ByteArray.size a0) : Int))) (Int.toNat r1) (Int.toNat ((ByteArray.size (ByteArray.extract a0 (1 : Nat) (Int.toNat ((ByteArray.size a0) : Int)))) : Int))) r4.2 (0 : Int) (0 : Int) (0 : Int) (ByteArray.mk (List.toArray [])) (IntKind.wrap IntKind.i64 (bt a0 (0 : Int))) (0 : Int) r4.1 (ByteArray.mk (List.toArray []))).bind ret))) else (bif ((IntKind.wrap IntKind.i64 (bt a0 (0 : Int))) == (4 : Int)) then ((s0 (ByteArray.extract a0 (1 : Nat) (Int.toNat ((ByteArray.size a0) : Int))) (ByteArray.extract (ByteArray.extract a0 (1 : Nat) (Int.toNat ((ByteArray.size a0) : Int))) (Int.toNat r1) (Int.toNat ((ByteArray.size (ByteArray.extract a0 (1 : Nat) (Int.toNat ((ByteArray.size a0) : Int)))) : Int))) true ((IntKind.wrap IntKind.i64 (bt a0 (0 : Int))) == (4 : Int)) (0 : Int) (0 : Int) (0 : Int) (ByteArray.mk (List.toArray [])) (IntKind.wrap IntKind.i64 (bt a0 (0 : Int))) (0 : Int) (0 : Int) (ByteArray.mk (List.toArray []))).bind ret) else ((s0 (ByteArray.extract a0 (1 : Nat) (Int.toNat ((ByteArray.size a0) : Int))) (ByteArray.extract (ByteArray.extract a0 (1 : Nat) (Int.toNat ((ByteArray.size a0) : Int))) (Int.toNat r1) (Int.toNat ((ByteArray.size (ByteArray.extract a0 (1 : Nat) (Int.toNat ((ByteArray.size a0) : Int)))) : Int))) true ((IntKind.wrap IntKind.i64 (bt a0 (0 : Int))) == (5 : Int)) (0 : Int) (0 : Int) (0 : Int) (ByteArray.mk (List.toArray [])) (IntKind.wrap IntKind.i64 (bt a0 (0 : Int))) (0 : Int) (0 : Int) (ByteArray.mk (List.toArray []))).bind ret))))) else none)))) else none)) else none))
def transomref05_Read.s0c {β : Type} (g30 : Int → Option Int) (g31 : ByteArray → Option Int) (g32 : Int → Option (Int × Bool)) (g33 : ByteArray → Option (ByteArray × ByteArray × Int)) (g34 : Int → Int → Int → ByteArray → Option Int) (s0 : ByteArray → ByteArray → Bool → Bool → Int → Int → Int → ByteArray → Int → Int → Int → ByteArray → Option (Int × Int × Int × ByteArray × ByteArray × Int)) (s1 : ByteArray → Bool → Int → Int → Int → ByteArray → Int → Int → Int → ByteArray → Option (Int × Int × Int × ByteArray × ByteArray × Int)) (x0 : ByteArray) (x1 : ByteArray) (x2 : Bool) (x3 : Bool) (x4 : Int) (x5 : Int) (x6 : Int) (x7 : ByteArray) (x8 : Int) (x9 : Int) (x10 : Int) (x11 : ByteArray) (ret : (Int × Int × Int × ByteArray × ByteArray × Int) → Option β) : Option β := (bif x3 then ((g33 x0).bind fun r0 => (bif (r0.2.2 != (0 : Int)) then (ret ((0 : Int), (0 : Int), (0 : Int), (ByteArray.mk (List.toArray [])), (ByteArray.mk (List.toArray [])), r0.2.2)) else ((s1 r0.2.1 x2 x4 x5 x6 x7 x8 x9 x10 r0.1).bind ret))) else ((s1 x1 x2 x4 x5 x6 x7 x8 x9 x10 x11).bind ret))
def transomref05_Read.s1c {β : Type} (g30 : Int → Option Int) (g31 : ByteArray → Option Int) (g32 : Int → Option (Int × Bool)) (g33 : ByteArray → Option (ByteArray × ByteArray × Int)) (g34 : Int → Int → Int → ByteArray → Option Int) (s0 : ByteArray → ByteArray → Bool → Bool → Int → Int → Int → ByteArray → Int → Int → Int → ByteArray → Option (Int × Int × Int × ByteArray × ByteArray × Int)) (s1 : ByteArray → Bool → Int → Int → Int → ByteArray → Int → Int → Int → ByteArray → Option (Int × Int × Int × ByteArray × ByteArray × Int)) (x0 : ByteArray) (x1 : Bool) (x2 : Int) (x3 : Int) (x4 : Int) (x5 : ByteArray) (x6 : Int) (x7 : Int) (x8 : Int) (x9 : ByteArray) (ret : (Int × Int × Int × ByteArray × ByteArray × Int) → Option β) : Option β := (bif (!x1) then (ret ((0 : Int), (0 : Int), (0 : Int), (ByteArray.mk (List.toArray [])), (ByteArray.mk (List.toArray [])), (4 : Int))) else ((g34 x6 x7 x8 x9).bind fun r0 => (bif (r0 != (0 : Int)) then (ret ((0 : Int), (0 : Int), (0 : Int), (ByteArray.mk (List.toArray [])), (ByteArray.mk (List.toArray [])), (4 : Int))) else (ret (x6, x7, x8, x9, x0, (0 : Int))))))
theorem transomref05_Read.c_bind {β : Type} (g30 : Int → Option Int) (g31 : ByteArray → Option Int) (g32 : Int → Option (Int × Bool)) (g33 : ByteArray → Option (ByteArray × ByteArray × Int)) (g34 : Int → Int → Int → ByteArray → Option Int) (s0 : ByteArray → ByteArray → Bool → Bool → Int → Int → Int → ByteArray → Int → Int → Int → ByteArray → Option (Int × Int × Int × ByteArray × ByteArray × Int)) (s1 : ByteArray → Bool → Int → Int → Int → ByteArray → Int → Int → Int → ByteArray → Option (Int × Int × Int × ByteArray × ByteArray × Int)) (a0 : ByteArray) (ret : (Int × Int × Int × ByteArray × ByteArray × Int) → Option β) : transomref05_Read.c g30 g31 g32 g33 g34 s0 s1 a0 ret = (transomref05_Read.c g30 g31 g32 g33 g34 s0 s1 a0 some).bind ret := by
  simp only [transomref05_Read.c, bif_bind, sum_bind, Option.bind_assoc, Option.bind_some, Option.bind_none, Option.bind_fun_some]
theorem transomref05_Read.s0c_bind {β : Type} (g30 : Int → Option Int) (g31 : ByteArray → Option Int) (g32 : Int → Option (Int × Bool)) (g33 : ByteArray → Option (ByteArray × ByteArray × Int)) (g34 : Int → Int → Int → ByteArray → Option Int) (s0 : ByteArray → ByteArray → Bool → Bool → Int → Int → Int → ByteArray → Int → Int → Int → ByteArray → Option (Int × Int × Int × ByteArray × ByteArray × Int)) (s1 : ByteArray → Bool → Int → Int → Int → ByteArray → Int → Int → Int → ByteArray → Option (Int × Int × Int × ByteArray × ByteArray × Int)) (x0 : ByteArray) (x1 : ByteArray) (x2 : Bool) (x3 : Bool) (x4 : Int) (x5 : Int) (x6 : Int) (x7 : ByteArray) (x8 : Int) (x9 : Int) (x10 : Int) (x11 : ByteArray) (ret : (Int × Int × Int × ByteArray × ByteArray × Int) → Option β) : transomref05_Read.s0c g30 g31 g32 g33 g34 s0 s1 x0 x1 x2 x3 x4 x5 x6 x7 x8 x9 x10 x11 ret = (transomref05_Read.s0c g30 g31 g32 g33 g34 s0 s1 x0 x1 x2 x3 x4 x5 x6 x7 x8 x9 x10 x11 some).bind ret := by
  simp only [transomref05_Read.s0c, bif_bind, sum_bind, Option.bind_assoc, Option.bind_some, Option.bind_none, Option.bind_fun_some]
theorem transomref05_Read.s1c_bind {β : Type} (g30 : Int → Option Int) (g31 : ByteArray → Option Int) (g32 : Int → Option (Int × Bool)) (g33 : ByteArray → Option (ByteArray × ByteArray × Int)) (g34 : Int → Int → Int → ByteArray → Option Int) (s0 : ByteArray → ByteArray → Bool → Bool → Int → Int → Int → ByteArray → Int → Int → Int → ByteArray → Option (Int × Int × Int × ByteArray × ByteArray × Int)) (s1 : ByteArray → Bool → Int → Int → Int → ByteArray → Int → Int → Int → ByteArray → Option (Int × Int × Int × ByteArray × ByteArray × Int)) (x0 : ByteArray) (x1 : Bool) (x2 : Int) (x3 : Int) (x4 : Int) (x5 : ByteArray) (x6 : Int) (x7 : Int) (x8 : Int) (x9 : ByteArray) (ret : (Int × Int × Int × ByteArray × ByteArray × Int) → Option β) : transomref05_Read.s1c g30 g31 g32 g33 g34 s0 s1 x0 x1 x2 x3 x4 x5 x6 x7 x8 x9 ret = (transomref05_Read.s1c g30 g31 g32 g33 g34 s0 s1 x0 x1 x2 x3 x4 x5 x6 x7 x8 x9 some).bind ret := by
  simp only [transomref05_Read.s1c, bif_bind, sum_bind, Option.bind_assoc, Option.bind_some, Option.bind_none, Option.bind_fun_some]
theorem transomref05_Read.ev (g30 : Int → Option Int) (g31 : ByteArray → Option Int) (g32 : Int → Option (Int × Bool)) (g33 : ByteArray → Option (ByteArray × ByteArray × Int)) (g34 : Int → Int → Int → ByteArray → Option Int) (s0 : ByteArray → ByteArray → Bool → Bool → Int → Int → Int → ByteArray → Int → Int → Int → ByteArray → Option (Int × Int × Int × ByteArray × ByteArray × Int)) (s1 : ByteArray → Bool → Int → Int → Int → ByteArray → Int → Int → Int → ByteArray → Option (Int × Int × Int × ByteArray × ByteArray × Int)) (a0 : ByteArray) : evAt (env_transomref05_Read g30 g31 g32 g33 g34 s0 s1) [] [0] [.v (.one (.d .str a0))] [] some = transomref05_Read.c g30 g31 g32 g33 g34 s0 s1 a0 (fun r => some ⟨.tup [(.agg [(.d (.int .i64) r.1), (.d (.int .i64) r.2.1), (.d (.int .u64) r.2.2.1), (.d .str r.2.2.2.1)]), (.one (.d .str r.2.2.2.2.1)), (.one (.d (.int .i64) r.2.2.2.2.2))], []⟩) := by
  kernel_rfl
theorem transomref05_Read.s0_ev (g30 : Int → Option Int) (g31 : ByteArray → Option Int) (g32 : Int → Option (Int × Bool)) (g33 : ByteArray → Option (ByteArray × ByteArray × Int)) (g34 : Int → Int → Int → ByteArray → Option Int) (s0 : ByteArray → ByteArray → Bool → Bool → Int → Int → Int → ByteArray → Int → Int → Int → ByteArray → Option (Int × Int × Int × ByteArray × ByteArray × Int)) (s1 : ByteArray → Bool → Int → Int → Int → ByteArray → Int → Int → Int → ByteArray → Option (Int × Int × Int × ByteArray × ByteArray × Int)) (x0 : ByteArray) (x1 : ByteArray) (x2 : Bool) (x3 : Bool) (x4 : Int) (x5 : Int) (x6 : Int) (x7 : ByteArray) (x8 : Int) (x9 : Int) (x10 : Int) (x11 : ByteArray) : evAt (env_transomref05_Read g30 g31 g32 g33 g34 s0 s1) [1, 3, 1, 3, 1, 3, 1, 4, 1, 0, 1, 1, 1, 1, 1, 1, 1, 1] [0, 2, 5, 6, 7, 65] [.v (.one (.d .str x0)), .v (.one (.ptr 0 0)), .v (.one (.ptr 1 0)), .v (.one (.d .str x1)), .v (.one (.d .bool x2)), .v (.one (.d .bool x3))] [some (.box [(.d (.int .i64) x4), (.d (.int .i64) x5), (.d (.int .u64) x6), (.d .str x7)]), some (.box [(.d (.int .i64) x8), (.d (.int .i64) x9), (.d (.int .u64) x10), (.d .str x11)])] some = transomref05_Read.s0c g30 g31 g32 g33 g34 s0 s1 x0 x1 x2 x3 x4 x5 x6 x7 x8 x9 x10 x11 (fun r => some ⟨.tup [(.agg [(.d (.int .i64) r.1), (.d (.int .i64) r.2.1), (.d (.int .u64) r.2.2.1), (.d .str r.2.2.2.1)]), (.one (.d .str r.2.2.2.2.1)), (.one (.d (.int .i64) r.2.2.2.2.2))], []⟩) := by
  kernel_rfl
theorem transomref05_Read.s1_ev (g30 : Int → Option Int) (g31 : ByteArray → Option Int) (g32 : Int → Option (Int × Bool)) (g33 : ByteArray → Option (ByteArray × ByteArray × Int)) (g34 : Int → Int → Int → ByteArray → Option Int) (s0 : ByteArray → ByteArray → Bool → Bool → Int → Int → Int → ByteArray → Int → Int → Int → ByteArray → Option (Int × Int × Int × ByteArray × ByteArray × Int)) (s1 : ByteArray → Bool → Int → Int → Int → ByteArray → Int → Int → Int → ByteArray → Option (Int × Int × Int × ByteArray × ByteArray × Int)) (x0 : ByteArray) (x1 : Bool) (x2 : Int) (x3 : Int) (x4 : Int) (x5 : ByteArray) (x6 : Int) (x7 : Int) (x8 : Int) (x9 : ByteArray) : evAt (env_transomref05_Read g30 g31 g32 g33 g34 s0 s1) [1, 1, 1, 1, 1, 1, 1, 1, 1] [2, 5, 6, 7] [.v (.one (.ptr 0 0)), .v (.one (.ptr 1 0)), .v (.one (.d .str x0)), .v (.one (.d .bool x1))] [some (.box [(.d (.int .i64) x2), (.d (.int .i64) x3), (.d (.int .u64) x4), (.d .str x5)]), some (.box [(.d (.int .i64) x6), (.d (.int .i64) x7), (.d (.int .u64) x8), (.d .str x9)])] some = transomref05_Read.s1c g30 g31 g32 g33 g34 s0 s1 x0 x1 x2 x3 x4 x5 x6 x7 x8 x9 (fun r => some ⟨.tup [(.agg [(.d (.int .i64) r.1), (.d (.int .i64) r.2.1), (.d (.int .u64) r.2.2.1), (.d .str r.2.2.2.1)]), (.one (.d .str r.2.2.2.2.1)), (.one (.d (.int .i64) r.2.2.2.2.2))], []⟩) := by
  kernel_rfl
mutual
def transomref05_Read.s0 : Nat → ByteArray → ByteArray → Bool → Bool → Int → Int → Int → ByteArray → Int → Int → Int → ByteArray → Option (Int × Int × Int × ByteArray × ByteArray × Int)
  | 0, _, _, _, _, _, _, _, _, _, _, _, _ => none
  | k + 1, x0, x1, x2, x3, x4, x5, x6, x7, x8, x9, x10, x11 => transomref05_Read.s0c (transomref05_fixed.f k) (transomref05_Number.f k) (transomref02_Back.f k) (transomref05_plain.f k) (transomref04_Check.f k) (transomref05_Read.s0 k) (transomref05_Read.s1 k) x0 x1 x2 x3 x4 x5 x6 x7 x8 x9 x10 x11 some
def transomref05_Read.s1 : Nat → ByteArray → Bool → Int → Int → Int → ByteArray → Int → Int → Int → ByteArray → Option (Int × Int × Int × ByteArray × ByteArray × Int)
  | 0, _, _, _, _, _, _, _, _, _, _ => none
  | k + 1, x0, x1, x2, x3, x4, x5, x6, x7, x8, x9 => transomref05_Read.s1c (transomref05_fixed.f k) (transomref05_Number.f k) (transomref02_Back.f k) (transomref05_plain.f k) (transomref04_Check.f k) (transomref05_Read.s0 k) (transomref05_Read.s1 k) x0 x1 x2 x3 x4 x5 x6 x7 x8 x9 some
end
def transomref05_Read.f (k : Nat) (a0 : ByteArray) : Option (Int × Int × Int × ByteArray × ByteArray × Int) := transomref05_Read.c (transomref05_fixed.f k) (transomref05_Number.f k) (transomref02_Back.f k) (transomref05_plain.f k) (transomref04_Check.f k) (transomref05_Read.s0 k) (transomref05_Read.s1 k) a0 some
theorem transomref05_Read.is (g30 : Int → Option Int) (g31 : ByteArray → Option Int) (g32 : Int → Option (Int × Bool)) (g33 : ByteArray → Option (ByteArray × ByteArray × Int)) (g34 : Int → Int → Int → ByteArray → Option Int) (s0 : ByteArray → ByteArray → Bool → Bool → Int → Int → Int → ByteArray → Int → Int → Int → ByteArray → Option (Int × Int × Int × ByteArray × ByteArray × Int)) (s1 : ByteArray → Bool → Int → Int → Int → ByteArray → Int → Int → Int → ByteArray → Option (Int × Int × Int × ByteArray × ByteArray × Int)) : FnIs (env_transomref05_Read g30 g31 g32 g33 g34 s0 s1) 10 Go.Proofs.Try.f10 := ⟨Go.Proofs.Try.func10, rfl, rfl, rfl, by decide⟩
theorem transomref05_Read.envok (g30 : Int → Option Int) (g31 : ByteArray → Option Int) (g32 : Int → Option (Int × Bool)) (g33 : ByteArray → Option (ByteArray × ByteArray × Int)) (g34 : Int → Int → Int → ByteArray → Option Int) (s0 : ByteArray → ByteArray → Bool → Bool → Int → Int → Int → ByteArray → Int → Int → Int → ByteArray → Option (Int × Int × Int × ByteArray × ByteArray × Int)) (s1 : ByteArray → Bool → Int → Int → Int → ByteArray → Int → Int → Int → ByteArray → Option (Int × Int × Int × ByteArray × ByteArray × Int)) (h30 : CtOK Go.Proofs.Try.prog 30 (ct_transomref05_fixed g30)) (h31 : CtOK Go.Proofs.Try.prog 31 (ct_transomref05_Number g31)) (h32 : CtOK Go.Proofs.Try.prog 32 (ct_transomref02_Back g32)) (h33 : CtOK Go.Proofs.Try.prog 33 (ct_transomref05_plain g33)) (h34 : CtOK Go.Proofs.Try.prog 34 (ct_transomref04_Check g34)) : EnvOK (env_transomref05_Read g30 g31 g32 g33 g34 s0 s1).toEnv := by
  intro f c h
  simp only [env_transomref05_Read] at h
  split at h
  · rename_i e; subst e; cases h; exact h30
  split at h
  · rename_i e; subst e; cases h; exact h31
  split at h
  · rename_i e; subst e; cases h; exact h32
  split at h
  · rename_i e; subst e; cases h; exact h33
  split at h
  · rename_i e; subst e; cases h; exact h34
  simp at h
theorem transomref05_Read.segs_ok : ∀ k, ∀ s ∈ (env_transomref05_Read (transomref05_fixed.f k) (transomref05_Number.f k) (transomref02_Back.f k) (transomref05_plain.f k) (transomref04_Check.f k) (transomref05_Read.s0 k) (transomref05_Read.s1 k)).segs, SegOK (env_transomref05_Read (transomref05_fixed.f k) (transomref05_Number.f k) (transomref02_Back.f k) (transomref05_plain.f k) (transomref04_Check.f k) (transomref05_Read.s0 k) (transomref05_Read.s1 k)) Go.Proofs.Try.f10 s
  | 0 => by
    intro s hs
    simp only [env_transomref05_Read, List.mem_cons, List.not_mem_nil, or_false] at hs
    rcases hs with rfl | rfl
    · intro tvs blks res h; exfalso; simp only [seg_transomref05_Read_0] at h; split at h <;> simp [transomref05_Read.s0] at h
    · intro tvs blks res h; exfalso; simp only [seg_transomref05_Read_1] at h; split at h <;> simp [transomref05_Read.s1] at h
  | k + 1 => by
    have ih := transomref05_Read.segs_ok k
    intro s hs
    simp only [env_transomref05_Read, List.mem_cons, List.not_mem_nil, or_false] at hs
    rcases hs with rfl | rfl
    · refine seg_of_ev (E := env_transomref05_Read (transomref05_fixed.f k) (transomref05_Number.f k) (transomref02_Back.f k) (transomref05_plain.f k) (transomref04_Check.f k) (transomref05_Read.s0 k) (transomref05_Read.s1 k)) (transomref05_Read.envok _ _ _ _ _ _ _  (transomref05_fixed.ok k) (transomref05_Number.ok k) (transomref02_Back.ok k) (transomref05_plain.ok k) (transomref04_Check.ok k)) ⟨(transomref05_Read.is (transomref05_fixed.f k) (transomref05_Number.f k) (transomref02_Back.f k) (transomref05_plain.f k) (transomref04_Check.f k) (transomref05_Read.s0 k) (transomref05_Read.s1 k)).rvs⟩ ih ?_
      intro tvs blks res h
      simp only [seg_transomref05_Read_0] at h
      split at h
      · refine (transomref05_Read.s0_ev (transomref05_fixed.f k) (transomref05_Number.f k) (transomref02_Back.f k) (transomref05_plain.f k) (transomref04_Check.f k) (transomref05_Read.s0 k) (transomref05_Read.s1 k) _ _ _ _ _ _ _ _ _ _ _ _ ).trans ?_
        rw [transomref05_Read.s0c_bind]
        exact h
      · simp at h
    · refine seg_of_ev (E := env_transomref05_Read (transomref05_fixed.f k) (transomref05_Number.f k) (transomref02_Back.f k) (transomref05_plain.f k) (transomref04_Check.f k) (transomref05_Read.s0 k) (transomref05_Read.s1 k)) (transomref05_Read.envok _ _ _ _ _ _ _  (transomref05_fixed.ok k) (transomref05_Number.ok k) (transomref02_Back.ok k) (transomref05_plain.ok k) (transomref04_Check.ok k)) ⟨(transomref05_Read.is (transomref05_fixed.f k) (transomref05_Number.f k) (transomref02_Back.f k) (transomref05_plain.f k) (transomref04_Check.f k) (transomref05_Read.s0 k) (transomref05_Read.s1 k)).rvs⟩ ih ?_
      intro tvs blks res h
      simp only [seg_transomref05_Read_1] at h
      split at h
      · refine (transomref05_Read.s1_ev (transomref05_fixed.f k) (transomref05_Number.f k) (transomref02_Back.f k) (transomref05_plain.f k) (transomref04_Check.f k) (transomref05_Read.s0 k) (transomref05_Read.s1 k) _ _ _ _ _ _ _ _ _ _ ).trans ?_
        rw [transomref05_Read.s1c_bind]
        exact h
      · simp at h
theorem transomref05_Read.ok (k : Nat) : CtOK Go.Proofs.Try.prog 10 (ct_transomref05_Read (transomref05_Read.f k)) := by
  refine ct_of_ev (E := env_transomref05_Read (transomref05_fixed.f k) (transomref05_Number.f k) (transomref02_Back.f k) (transomref05_plain.f k) (transomref04_Check.f k) (transomref05_Read.s0 k) (transomref05_Read.s1 k)) (transomref05_Read.is _ _ _ _ _ _ _ ) (transomref05_Read.envok _ _ _ _ _ _ _  (transomref05_fixed.ok k) (transomref05_Number.ok k) (transomref02_Back.ok k) (transomref05_plain.ok k) (transomref04_Check.ok k)) (transomref05_Read.segs_ok k) rfl ?_
  intro tvs blks res h
  simp only [ct_transomref05_Read] at h
  split at h
  · refine (transomref05_Read.ev (transomref05_fixed.f k) (transomref05_Number.f k) (transomref02_Back.f k) (transomref05_plain.f k) (transomref04_Check.f k) (transomref05_Read.s0 k) (transomref05_Read.s1 k) _ ).trans ?_
    rw [transomref05_Read.c_bind]
    exact h
  · simp at h

/-! ### transomref05_ReadRow: function 12 -/
def ct_transomref05_ReadRow (g : ByteArray → Option ((List (Int × (Int × (Int × (ByteArray × Unit))))) × Int)) : Ct where
  nin := 0
  mv := []
  F := fun tvs blks {β} K => match tvs, blks with
    | [.v (.one (.d .str a0))], [] => (g a0).bind fun r => K ⟨.tup [(.one (.d (.sl (.pair (.int .i64) (.pair (.int .i64) (.pair (.int .u64) (.pair .str .unit))))) r.1)), (.one (.d (.int .i64) r.2))], []⟩
    | _, _ => none
  legit := fun tvs blks K r h => by
    split at h
    · obtain ⟨x, hx, hk⟩ := Option.bind_eq_some_iff.1 h
      refine ⟨_, ?_, hk⟩
      simp only [hx, Option.bind_some]
    · simp at h
def seg_transomref05_ReadRow_0 (g : ByteArray → (List (Int × (Int × (Int × (ByteArray × Unit))))) → Option ((List (Int × (Int × (Int × (ByteArray × Unit))))) × Int)) : Seg where
  path := [4, 0, 1, 1]
  prep := [.own 4 (.pair (.int .i64) (.pair (.int .i64) (.pair (.int .u64) (.pair .str .unit))))]
  keep := [0, 4]
  F := fun tvs blks {β} K => match tvs, blks with
    | [.v (.one (.d .str x0)), .v (.one (.own 0))], [some (.own (.pair (.int .i64) (.pair (.int .i64) (.pair (.int .u64) (.pair .str .unit)))) false x1)] => (g x0 x1).bind fun r => K ⟨.tup [(.one (.d (.sl (.pair (.int .i64) (.pair (.int .i64) (.pair (.int .u64) (.pair .str .unit))))) r.1)), (.one (.d (.int .i64) r.2))], []⟩
    | _, _ => none
  legit := fun tvs blks K r h => by
    split at h
    · obtain ⟨x, hx, hk⟩ := Option.bind_eq_some_iff.1 h
      refine ⟨_, ?_, hk⟩
      simp only [hx, Option.bind_some]
    · simp at h
noncomputable def env_transomref05_ReadRow (g10 : ByteArray → Option (Int × Int × Int × ByteArray × ByteArray × Int)) (s0 : ByteArray → (List (Int × (Int × (Int × (ByteArray × Unit))))) → Option ((List (Int × (Int × (Int × (ByteArray × Unit))))) × Int)) : FEnv := { P := Go.Proofs.Try.prog, ct := fun m => if m = 10 then some (ct_transomref05_Read g10) else none, N := 26, body := Go.Proofs.Try.f12.body.getD .skip, rvs := [.tmp 2, .tmp 3], rts := [31, 3], nin := 0, rmv := [], segs := [seg_transomref05_ReadRow_0 s0] }
def transomref05_ReadRow.c {β : Type} (g10 : ByteArray → Option (Int × Int × Int × ByteArray × ByteArray × Int)) (s0 : ByteArray → (List (Int × (Int × (Int × (ByteArray × Unit))))) → Option ((List (Int × (Int × (Int × (ByteArray × Unit))))) × Int)) (a0 : ByteArray) (ret : ((List (Int × (Int × (Int × (ByteArray × Unit))))) × Int) → Option β) : Option β := ((s0 a0 []).bind ret)
def transomref05_ReadRow.s0c {β : Type} (g10 : ByteArray → Option (Int × Int × Int × ByteArray × ByteArray × Int)) (s0 : ByteArray → (List (Int × (Int × (Int × (ByteArray × Unit))))) → Option ((List (Int × (Int × (Int × (ByteArray × Unit))))) × Int)) (x0 : ByteArray) (x1 : List (Int × (Int × (Int × (ByteArray × Unit))))) (ret : ((List (Int × (Int × (Int × (ByteArray × Unit))))) × Int) → Option β) : Option β := (bif (decide (((ByteArray.size x0) : Int) > (0 : Int))) then ((g10 x0).bind fun r0 => (bif (r0.2.2.2.2.2 != (0 : Int)) then (ret ([], r0.2.2.2.2.2)) else (bif (decide ((((List.length x1) + (1 : Nat)) * (40 : Nat)) ≤ (35184372088832 : Nat))) then ((s0 r0.2.2.2.2.1 (x1 ++ [(r0.1, (r0.2.1, (r0.2.2.1, (r0.2.2.2.1, ()))))])).bind ret) else none))) else (ret (x1, (0 : Int))))
theorem transomref05_ReadRow.c_bind {β : Type} (g10 : ByteArray → Option (Int × Int × Int × ByteArray × ByteArray × Int)) (s0 : ByteArray → (List (Int × (Int × (Int × (ByteArray × Unit))))) → Option ((List (Int × (Int × (Int × (ByteArray × Unit))))) × Int)) (a0 : ByteArray) (ret : ((List (Int × (Int × (Int × (ByteArray × Unit))))) × Int) → Option β) : transomref05_ReadRow.c g10 s0 a0 ret = (transomref05_ReadRow.c g10 s0 a0 some).bind ret := by
  simp only [transomref05_ReadRow.c, bif_bind, sum_bind, Option.bind_assoc, Option.bind_some, Option.bind_none, Option.bind_fun_some]
theorem transomref05_ReadRow.s0c_bind {β : Type} (g10 : ByteArray → Option (Int × Int × Int × ByteArray × ByteArray × Int)) (s0 : ByteArray → (List (Int × (Int × (Int × (ByteArray × Unit))))) → Option ((List (Int × (Int × (Int × (ByteArray × Unit))))) × Int)) (x0 : ByteArray) (x1 : List (Int × (Int × (Int × (ByteArray × Unit))))) (ret : ((List (Int × (Int × (Int × (ByteArray × Unit))))) × Int) → Option β) : transomref05_ReadRow.s0c g10 s0 x0 x1 ret = (transomref05_ReadRow.s0c g10 s0 x0 x1 some).bind ret := by
  simp only [transomref05_ReadRow.s0c, bif_bind, sum_bind, Option.bind_assoc, Option.bind_some, Option.bind_none, Option.bind_fun_some]
theorem transomref05_ReadRow.ev (g10 : ByteArray → Option (Int × Int × Int × ByteArray × ByteArray × Int)) (s0 : ByteArray → (List (Int × (Int × (Int × (ByteArray × Unit))))) → Option ((List (Int × (Int × (Int × (ByteArray × Unit))))) × Int)) (a0 : ByteArray) : evAt (env_transomref05_ReadRow g10 s0) [] [0] [.v (.one (.d .str a0))] [] some = transomref05_ReadRow.c g10 s0 a0 (fun r => some ⟨.tup [(.one (.d (.sl (.pair (.int .i64) (.pair (.int .i64) (.pair (.int .u64) (.pair .str .unit))))) r.1)), (.one (.d (.int .i64) r.2))], []⟩) := by
  kernel_rfl
theorem transomref05_ReadRow.s0_ev (g10 : ByteArray → Option (Int × Int × Int × ByteArray × ByteArray × Int)) (s0 : ByteArray → (List (Int × (Int × (Int × (ByteArray × Unit))))) → Option ((List (Int × (Int × (Int × (ByteArray × Unit))))) × Int)) (x0 : ByteArray) (x1 : List (Int × (Int × (Int × (ByteArray × Unit))))) : evAt (env_transomref05_ReadRow g10 s0) [4, 0, 1, 1] [0, 4] [.v (.one (.d .str x0)), .v (.one (.own 0))] [some (.own (.pair (.int .i64) (.pair (.int .i64) (.pair (.int .u64) (.pair .str .unit)))) false x1)] some = transomref05_ReadRow.s0c g10 s0 x0 x1 (fun r => some ⟨.tup [(.one (.d (.sl (.pair (.int .i64) (.pair (.int .i64) (.pair (.int .u64) (.pair .str .unit))))) r.1)), (.one (.d (.int .i64) r.2))], []⟩) := by
  kernel_rfl
def transomref05_ReadRow.s0 : Nat → ByteArray → (List (Int × (Int × (Int × (ByteArray × Unit))))) → Option ((List (Int × (Int × (Int × (ByteArray × Unit))))) × Int)
  | 0, _, _ => none
  | k + 1, x0, x1 => transomref05_ReadRow.s0c (transomref05_Read.f k) (transomref05_ReadRow.s0 k) x0 x1 some
def transomref05_ReadRow.f (k : Nat) (a0 : ByteArray) : Option ((List (Int × (Int × (Int × (ByteArray × Unit))))) × Int) := transomref05_ReadRow.c (transomref05_Read.f k) (transomref05_ReadRow.s0 k) a0 some
theorem transomref05_ReadRow.is (g10 : ByteArray → Option (Int × Int × Int × ByteArray × ByteArray × Int)) (s0 : ByteArray → (List (Int × (Int × (Int × (ByteArray × Unit))))) → Option ((List (Int × (Int × (Int × (ByteArray × Unit))))) × Int)) : FnIs (env_transomref05_ReadRow g10 s0) 12 Go.Proofs.Try.f12 := ⟨Go.Proofs.Try.func12, rfl, rfl, rfl, by decide⟩
theorem transomref05_ReadRow.envok (g10 : ByteArray → Option (Int × Int × Int × ByteArray × ByteArray × Int)) (s0 : ByteArray → (List (Int × (Int × (Int × (ByteArray × Unit))))) → Option ((List (Int × (Int × (Int × (ByteArray × Unit))))) × Int)) (h10 : CtOK Go.Proofs.Try.prog 10 (ct_transomref05_Read g10)) : EnvOK (env_transomref05_ReadRow g10 s0).toEnv := by
  intro f c h
  simp only [env_transomref05_ReadRow] at h
  split at h
  · rename_i e; subst e; cases h; exact h10
  simp at h
theorem transomref05_ReadRow.segs_ok : ∀ k, ∀ s ∈ (env_transomref05_ReadRow (transomref05_Read.f k) (transomref05_ReadRow.s0 k)).segs, SegOK (env_transomref05_ReadRow (transomref05_Read.f k) (transomref05_ReadRow.s0 k)) Go.Proofs.Try.f12 s
  | 0 => by
    intro s hs
    simp only [env_transomref05_ReadRow, List.mem_cons, List.not_mem_nil, or_false] at hs
    rcases hs with rfl
    · intro tvs blks res h; exfalso; simp only [seg_transomref05_ReadRow_0] at h; split at h <;> simp [transomref05_ReadRow.s0] at h
  | k + 1 => by
    have ih := transomref05_ReadRow.segs_ok k
    intro s hs
    simp only [env_transomref05_ReadRow, List.mem_cons, List.not_mem_nil, or_false] at hs
    rcases hs with rfl
    · refine seg_of_ev (E := env_transomref05_ReadRow (transomref05_Read.f k) (transomref05_ReadRow.s0 k)) (transomref05_ReadRow.envok _ _  (transomref05_Read.ok k)) ⟨(transomref05_ReadRow.is (transomref05_Read.f k) (transomref05_ReadRow.s0 k)).rvs⟩ ih ?_
      intro tvs blks res h
      simp only [seg_transomref05_ReadRow_0] at h
      split at h
      · refine (transomref05_ReadRow.s0_ev (transomref05_Read.f k) (transomref05_ReadRow.s0 k) _ _ ).trans ?_
        rw [transomref05_ReadRow.s0c_bind]
        exact h
      · simp at h
theorem transomref05_ReadRow.ok (k : Nat) : CtOK Go.Proofs.Try.prog 12 (ct_transomref05_ReadRow (transomref05_ReadRow.f k)) := by
  refine ct_of_ev (E := env_transomref05_ReadRow (transomref05_Read.f k) (transomref05_ReadRow.s0 k)) (transomref05_ReadRow.is _ _ ) (transomref05_ReadRow.envok _ _  (transomref05_Read.ok k)) (transomref05_ReadRow.segs_ok k) rfl ?_
  intro tvs blks res h
  simp only [ct_transomref05_ReadRow] at h
  split at h
  · refine (transomref05_ReadRow.ev (transomref05_Read.f k) (transomref05_ReadRow.s0 k) _ ).trans ?_
    rw [transomref05_ReadRow.c_bind]
    exact h
  · simp at h

/-! ### transomref04_Same: function 13 -/
def ct_transomref04_Same (g : Int → Int → Int → ByteArray → Int → Int → Int → ByteArray → Option Bool) : Ct where
  nin := 0
  mv := []
  F := fun tvs blks {β} K => match tvs, blks with
    | [.v (.agg [(.d (.int .i64) a0), (.d (.int .i64) a1), (.d (.int .u64) a2), (.d .str a3)]), .v (.agg [(.d (.int .i64) a4), (.d (.int .i64) a5), (.d (.int .u64) a6), (.d .str a7)])], [] => (g a0 a1 a2 a3 a4 a5 a6 a7).bind fun r => K ⟨.v (.one (.d .bool r)), []⟩
    | _, _ => none
  legit := fun tvs blks K r h => by
    split at h
    · obtain ⟨x, hx, hk⟩ := Option.bind_eq_some_iff.1 h
      refine ⟨_, ?_, hk⟩
      simp only [hx, Option.bind_some]
    · simp at h
noncomputable def env_transomref04_Same   : FEnv := { P := Go.Proofs.Try.prog, ct := fun m => none, N := 31, body := Go.Proofs.Try.f13.body.getD .skip, rvs := [.tmp 4], rts := [4], nin := 0, rmv := [], segs := [] }
def transomref04_Same.c {β : Type}   (a0 : Int) (a1 : Int) (a2 : Int) (a3 : ByteArray) (a4 : Int) (a5 : Int) (a6 : Int) (a7 : ByteArray) (ret : Bool → Option β) : Option β := (bif (a0 == a4) then (bif (a1 == a5) then (bif (a2 == a6) then (ret (((ByteArray.toList a3) == (ByteArray.toList a7)))) else (ret (false))) else (ret (false))) else (ret (false)))
theorem transomref04_Same.c_bind {β : Type}   (a0 : Int) (a1 : Int) (a2 : Int) (a3 : ByteArray) (a4 : Int) (a5 : Int) (a6 : Int) (a7 : ByteArray) (ret : Bool → Option β) : transomref04_Same.c   a0 a1 a2 a3 a4 a5 a6 a7 ret = (transomref04_Same.c   a0 a1 a2 a3 a4 a5 a6 a7 some).bind ret := by
  simp only [transomref04_Same.c, bif_bind, sum_bind, Option.bind_assoc, Option.bind_some, Option.bind_none, Option.bind_fun_some]
theorem transomref04_Same.ev   (a0 : Int) (a1 : Int) (a2 : Int) (a3 : ByteArray) (a4 : Int) (a5 : Int) (a6 : Int) (a7 : ByteArray) : evAt (env_transomref04_Same  ) [] [0, 1] [.v (.agg [(.d (.int .i64) a0), (.d (.int .i64) a1), (.d (.int .u64) a2), (.d .str a3)]), .v (.agg [(.d (.int .i64) a4), (.d (.int .i64) a5), (.d (.int .u64) a6), (.d .str a7)])] [] some = transomref04_Same.c   a0 a1 a2 a3 a4 a5 a6 a7 (fun r => some ⟨.v (.one (.d .bool r)), []⟩) := by
  kernel_rfl
def transomref04_Same.f (k : Nat) (a0 : Int) (a1 : Int) (a2 : Int) (a3 : ByteArray) (a4 : Int) (a5 : Int) (a6 : Int) (a7 : ByteArray) : Option Bool := transomref04_Same.c   a0 a1 a2 a3 a4 a5 a6 a7 some
theorem transomref04_Same.is   : FnIs (env_transomref04_Same  ) 13 Go.Proofs.Try.f13 := ⟨Go.Proofs.Try.func13, rfl, rfl, rfl, by decide⟩
theorem transomref04_Same.envok    : EnvOK (env_transomref04_Same  ).toEnv := by
  intro f c h
  simp only [env_transomref04_Same] at h
  simp at h
theorem transomref04_Same.ok (k : Nat) : CtOK Go.Proofs.Try.prog 13 (ct_transomref04_Same (transomref04_Same.f k)) := by
  refine ct_of_ev (E := env_transomref04_Same  ) (transomref04_Same.is ) (transomref04_Same.envok  ) (fun s hs => by simp [env_transomref04_Same] at hs) rfl ?_
  intro tvs blks res h
  simp only [ct_transomref04_Same] at h
  split at h
  · refine (transomref04_Same.ev   _ _ _ _ _ _ _ _ ).trans ?_
    rw [transomref04_Same.c_bind]
    exact h
  · simp at h

/-! ### transomref04_SameRow: function 14 -/
def ct_transomref04_SameRow (g : (List (Int × (Int × (Int × (ByteArray × Unit))))) → (List (Int × (Int × (Int × (ByteArray × Unit))))) → Option Bool) : Ct where
  nin := 0
  mv := []
  F := fun tvs blks {β} K => match tvs, blks with
    | [.v (.one (.d (.sl (.pair (.int .i64) (.pair (.int .i64) (.pair (.int .u64) (.pair .str .unit))))) a0)), .v (.one (.d (.sl (.pair (.int .i64) (.pair (.int .i64) (.pair (.int .u64) (.pair .str .unit))))) a1))], [] => (g a0 a1).bind fun r => K ⟨.v (.one (.d .bool r)), []⟩
    | _, _ => none
  legit := fun tvs blks K r h => by
    split at h
    · obtain ⟨x, hx, hk⟩ := Option.bind_eq_some_iff.1 h
      refine ⟨_, ?_, hk⟩
      simp only [hx, Option.bind_some]
    · simp at h
def seg_transomref04_SameRow_0 (g : (List (Int × (Int × (Int × (ByteArray × Unit))))) → (List (Int × (Int × (Int × (ByteArray × Unit))))) → Int → Option Bool) : Seg where
  path := [4, 1, 0, 1, 1]
  prep := []
  keep := [0, 1, 5]
  F := fun tvs blks {β} K => match tvs, blks with
    | [.v (.one (.d (.sl (.pair (.int .i64) (.pair (.int .i64) (.pair (.int .u64) (.pair .str .unit))))) x0)), .v (.one (.d (.sl (.pair (.int .i64) (.pair (.int .i64) (.pair (.int .u64) (.pair .str .unit))))) x1)), .v (.one (.d (.int .i64) x2))], [] => (g x0 x1 x2).bind fun r => K ⟨.v (.one (.d .bool r)), []⟩
    | _, _ => none
  legit := fun tvs blks K r h => by
    split at h
    · obtain ⟨x, hx, hk⟩ := Option.bind_eq_some_iff.1 h
      refine ⟨_, ?_, hk⟩
      simp only [hx, Option.bind_some]
    · simp at h
noncomputable def env_transomref04_SameRow (g13 : Int → Int → Int → ByteArray → Int → Int → Int → ByteArray → Option Bool) (s0 : (List (Int × (Int × (Int × (ByteArray × Unit))))) → (List (Int × (Int × (Int × (ByteArray × Unit))))) → Int → Option Bool) : FEnv := { P := Go.Proofs.Try.prog, ct := fun m => if m = 13 then some (ct_transomref04_Same g13) else none, N := 27, body := Go.Proofs.Try.f14.body.getD .skip, rvs := [.tmp 4], rts := [4], nin := 0, rmv := [], segs := [seg_transomref04_SameRow_0 s0] }
def transomref04_SameRow.c {β : Type} (g13 : Int → Int → Int → ByteArray → Int → Int → Int → ByteArray → Option Bool) (s0 : (List (Int × (Int × (Int × (ByteArray × Unit))))) → (List (Int × (Int × (Int × (ByteArray × Unit))))) → Int → Option Bool) (a0 : List (Int × (Int × (Int × (ByteArray × Unit))))) (a1 : List (Int × (Int × (Int × (ByteArray × Unit))))) (ret : Bool → Option β) : Option β := (bif (((List.length a0) : Int) != ((List.length a1) : Int)) then (ret (false)) else ((s0 a0 a1 (0 : Int)).bind ret))
def transomref04_SameRow.s0c {β : Type} (g13 : Int → Int → Int → ByteArray → Int → Int → Int → ByteArray → Option Bool) (s0 : (List (Int × (Int × (Int × (ByteArray × Unit))))) → (List (Int × (Int × (Int × (ByteArray × Unit))))) → Int → Option Bool) (x0 : List (Int × (Int × (Int × (ByteArray × Unit))))) (x1 : List (Int × (Int × (Int × (ByteArray × Unit))))) (x2 : Int) (ret : Bool → Option β) : Option β := (bif (decide (x2 < ((List.length x0) : Int))) then (bif ((decide ((0 : Int) ≤ x2)) && (decide (x2 < ((List.length x0) : Int)))) then (bif ((decide ((0 : Int) ≤ x2)) && (decide (x2 < ((List.length x1) : Int)))) then ((g13 (elem (Ty.pair (Ty.int IntKind.i64) (Ty.pair (Ty.int IntKind.i64) (Ty.pair (Ty.int IntKind.u64) (Ty.pair Ty.str Ty.unit)))) x0 x2).1 (elem (Ty.pair (Ty.int IntKind.i64) (Ty.pair (Ty.int IntKind.i64) (Ty.pair (Ty.int IntKind.u64) (Ty.pair Ty.str Ty.unit)))) x0 x2).2.1 (elem (Ty.pair (Ty.int IntKind.i64) (Ty.pair (Ty.int IntKind.i64) (Ty.pair (Ty.int IntKind.u64) (Ty.pair Ty.str Ty.unit)))) x0 x2).2.2.1 (elem (Ty.pair (Ty.int IntKind.i64) (Ty.pair (Ty.int IntKind.i64) (Ty.pair (Ty.int IntKind.u64) (Ty.pair Ty.str Ty.unit)))) x0 x2).2.2.2.1 (elem (Ty.pair (Ty.int IntKind.i64) (Ty.pair (Ty.int IntKind.i64) (Ty.pair (Ty.int IntKind.u64) (Ty.pair Ty.str Ty.unit)))) x1 x2).1 (elem (Ty.pair (Ty.int IntKind.i64) (Ty.pair (Ty.int IntKind.i64) (Ty.pair (Ty.int IntKind.u64) (Ty.pair Ty.str Ty.unit)))) x1 x2).2.1 (elem (Ty.pair (Ty.int IntKind.i64) (Ty.pair (Ty.int IntKind.i64) (Ty.pair (Ty.int IntKind.u64) (Ty.pair Ty.str Ty.unit)))) x1 x2).2.2.1 (elem (Ty.pair (Ty.int IntKind.i64) (Ty.pair (Ty.int IntKind.i64) (Ty.pair (Ty.int IntKind.u64) (Ty.pair Ty.str Ty.unit)))) x1 x2).2.2.2.1).bind fun r0 => (bif (!r0) then (ret (false)) else ((s0 x0 x1 (IntKind.wrap IntKind.i64 (x2 + (1 : Int)))).bind ret))) else none) else none) else (ret (true)))
theorem transomref04_SameRow.c_bind {β : Type} (g13 : Int → Int → Int → ByteArray → Int → Int → Int → ByteArray → Option Bool) (s0 : (List (Int × (Int × (Int × (ByteArray × Unit))))) → (List (Int × (Int × (Int × (ByteArray × Unit))))) → Int → Option Bool) (a0 : List (Int × (Int × (Int × (ByteArray × Unit))))) (a1 : List (Int × (Int × (Int × (ByteArray × Unit))))) (ret : Bool → Option β) : transomref04_SameRow.c g13 s0 a0 a1 ret = (transomref04_SameRow.c g13 s0 a0 a1 some).bind ret := by
  simp only [transomref04_SameRow.c, bif_bind, sum_bind, Option.bind_assoc, Option.bind_some, Option.bind_none, Option.bind_fun_some]
theorem transomref04_SameRow.s0c_bind {β : Type} (g13 : Int → Int → Int → ByteArray → Int → Int → Int → ByteArray → Option Bool) (s0 : (List (Int × (Int × (Int × (ByteArray × Unit))))) → (List (Int × (Int × (Int × (ByteArray × Unit))))) → Int → Option Bool) (x0 : List (Int × (Int × (Int × (ByteArray × Unit))))) (x1 : List (Int × (Int × (Int × (ByteArray × Unit))))) (x2 : Int) (ret : Bool → Option β) : transomref04_SameRow.s0c g13 s0 x0 x1 x2 ret = (transomref04_SameRow.s0c g13 s0 x0 x1 x2 some).bind ret := by
  simp only [transomref04_SameRow.s0c, bif_bind, sum_bind, Option.bind_assoc, Option.bind_some, Option.bind_none, Option.bind_fun_some]
theorem transomref04_SameRow.ev (g13 : Int → Int → Int → ByteArray → Int → Int → Int → ByteArray → Option Bool) (s0 : (List (Int × (Int × (Int × (ByteArray × Unit))))) → (List (Int × (Int × (Int × (ByteArray × Unit))))) → Int → Option Bool) (a0 : List (Int × (Int × (Int × (ByteArray × Unit))))) (a1 : List (Int × (Int × (Int × (ByteArray × Unit))))) : evAt (env_transomref04_SameRow g13 s0) [] [0, 1] [.v (.one (.d (.sl (.pair (.int .i64) (.pair (.int .i64) (.pair (.int .u64) (.pair .str .unit))))) a0)), .v (.one (.d (.sl (.pair (.int .i64) (.pair (.int .i64) (.pair (.int .u64) (.pair .str .unit))))) a1))] [] some = transomref04_SameRow.c g13 s0 a0 a1 (fun r => some ⟨.v (.one (.d .bool r)), []⟩) := by
  kernel_rfl
theorem transomref04_SameRow.s0_ev (g13 : Int → Int → Int → ByteArray → Int → Int → Int → ByteArray → Option Bool) (s0 : (List (Int × (Int × (Int × (ByteArray × Unit))))) → (List (Int × (Int × (Int × (ByteArray × Unit))))) → Int → Option Bool) (x0 : List (Int × (Int × (Int × (ByteArray × Unit))))) (x1 : List (Int × (Int × (Int × (ByteArray × Unit))))) (x2 : Int) : evAt (env_transomref04_SameRow g13 s0) [4, 1, 0, 1, 1] [0, 1, 5] [.v (.one (.d (.sl (.pair (.int .i64) (.pair (.int .i64) (.pair (.int .u64) (.pair .str .unit))))) x0)), .v (.one (.d (.sl (.pair (.int .i64) (.pair (.int .i64) (.pair (.int .u64) (.pair .str .unit))))) x1)), .v (.one (.d (.int .i64) x2))] [] some = transomref04_SameRow.s0c g13 s0 x0 x1 x2 (fun r => some ⟨.v (.one (.d .bool r)), []⟩) := by
  kernel_rfl
def transomref04_SameRow.s0 : Nat → (List (Int × (Int × (Int × (ByteArray × Unit))))) → (List (Int × (Int × (Int × (ByteArray × Unit))))) → Int → Option Bool
  | 0, _, _, _ => none
  | k + 1, x0, x1, x2 => transomref04_SameRow.s0c (transomref04_Same.f k) (transomref04_SameRow.s0 k) x0 x1 x2 some
def transomref04_SameRow.f (k : Nat) (a0 : List (Int × (Int × (Int × (ByteArray × Unit))))) (a1 : List (Int × (Int × (Int × (ByteArray × Unit))))) : Option Bool := transomref04_SameRow.c (transomref04_Same.f k) (transomref04_SameRow.s0 k) a0 a1 some
theorem transomref04_SameRow.is (g13 : Int → Int → Int → ByteArray → Int → Int → Int → ByteArray → Option Bool) (s0 : (List (Int × (Int × (Int × (ByteArray × Unit))))) → (List (Int × (Int × (Int × (ByteArray × Unit))))) → Int → Option Bool) : FnIs (env_transomref04_SameRow g13 s0) 14 Go.Proofs.Try.f14 := ⟨Go.Proofs.Try.func14, rfl, rfl, rfl, by decide⟩
theorem transomref04_SameRow.envok (g13 : Int → Int → Int → ByteArray → Int → Int → Int → ByteArray → Option Bool) (s0 : (List (Int × (Int × (Int × (ByteArray × Unit))))) → (List (Int × (Int × (Int × (ByteArray × Unit))))) → Int → Option Bool) (h13 : CtOK Go.Proofs.Try.prog 13 (ct_transomref04_Same g13)) : EnvOK (env_transomref04_SameRow g13 s0).toEnv := by
  intro f c h
  simp only [env_transomref04_SameRow] at h
  split at h
  · rename_i e; subst e; cases h; exact h13
  simp at h
theorem transomref04_SameRow.segs_ok : ∀ k, ∀ s ∈ (env_transomref04_SameRow (transomref04_Same.f k) (transomref04_SameRow.s0 k)).segs, SegOK (env_transomref04_SameRow (transomref04_Same.f k) (transomref04_SameRow.s0 k)) Go.Proofs.Try.f14 s
  | 0 => by
    intro s hs
    simp only [env_transomref04_SameRow, List.mem_cons, List.not_mem_nil, or_false] at hs
    rcases hs with rfl
    · intro tvs blks res h; exfalso; simp only [seg_transomref04_SameRow_0] at h; split at h <;> simp [transomref04_SameRow.s0] at h
  | k + 1 => by
    have ih := transomref04_SameRow.segs_ok k
    intro s hs
    simp only [env_transomref04_SameRow, List.mem_cons, List.not_mem_nil, or_false] at hs
    rcases hs with rfl
    · refine seg_of_ev (E := env_transomref04_SameRow (transomref04_Same.f k) (transomref04_SameRow.s0 k)) (transomref04_SameRow.envok _ _  (transomref04_Same.ok k)) ⟨(transomref04_SameRow.is (transomref04_Same.f k) (transomref04_SameRow.s0 k)).rvs⟩ ih ?_
      intro tvs blks res h
      simp only [seg_transomref04_SameRow_0] at h
      split at h
      · refine (transomref04_SameRow.s0_ev (transomref04_Same.f k) (transomref04_SameRow.s0 k) _ _ _ ).trans ?_
        rw [transomref04_SameRow.s0c_bind]
        exact h
      · simp at h
theorem transomref04_SameRow.ok (k : Nat) : CtOK Go.Proofs.Try.prog 14 (ct_transomref04_SameRow (transomref04_SameRow.f k)) := by
  refine ct_of_ev (E := env_transomref04_SameRow (transomref04_Same.f k) (transomref04_SameRow.s0 k)) (transomref04_SameRow.is _ _ ) (transomref04_SameRow.envok _ _  (transomref04_Same.ok k)) (transomref04_SameRow.segs_ok k) rfl ?_
  intro tvs blks res h
  simp only [ct_transomref04_SameRow] at h
  split at h
  · refine (transomref04_SameRow.ev (transomref04_Same.f k) (transomref04_SameRow.s0 k) _ _ ).trans ?_
    rw [transomref04_SameRow.c_bind]
    exact h
  · simp at h
end Go.Proofs.Ytpcojbnoadnknaa.Aev
