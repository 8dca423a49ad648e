/- By a program of this session (AEV): functions of the program as plain functions, and that the machine does what they say. -/
import Derived.Test.YtddlebbjaadbeaaGreatDoorTys
import Derived.Test.YtddlebbjaadbeaaGreatDoorProg
import Derived.Laws.Externs
import Derived.Lib.Bytealg
import Derived.Test.YtddlebbjaadbeaaGreatDoorF12
import Derived.Test.YtddlebbjaadbeaaGreatDoorF13
import Derived.Test.YtddlebbjaadbeaaGreatDoorF15
import Derived.Test.YtddlebbjaadbeaaGreatDoorF16
namespace Go.Proofs.YtddlebbjaadbeaaGreatDoor.Aev
set_option linter.unusedVariables false
set_option linter.unusedSimpArgs false
set_option maxRecDepth 100000
set_option maxHeartbeats 4000000
open Go Go.Proofs.Tryz
namespace transomref05_Read
abbrev G : Type := ByteArray → Option (Int × Int × Int × ByteArray × ByteArray × Int)
def ct (g : G) : Ct where
  nin := 0
  mv := []
  F := fun tvs blks {β} K => match tvs, blks with
    | [.v (.one (.d .str a0))], [] => (g a0).bind fun r => K ⟨.tup [(.agg [(.d (.int .i64) r.1), (.d (.int .i64) r.2.1), (.d (.int .u64) r.2.2.1), (.d .str r.2.2.2.1)]), (.one (.d .str r.2.2.2.2.1)), (.one (.d (.int .i64) r.2.2.2.2.2))], []⟩
    | _, _ => none
  legit := fun _ _ K _ h => by split at h; exact (legit1 K h :); simp at h
abbrev S0 : Type := ByteArray → ByteArray → Bool → Bool → Int → Int → Int → ByteArray → Int → Int → Int → ByteArray → Option (Int × Int × Int × ByteArray × ByteArray × Int)
abbrev S1 : Type := ByteArray → Bool → Int → Int → Int → ByteArray → Int → Int → Int → ByteArray → Option (Int × Int × Int × ByteArray × ByteArray × Int)
def sg0 (g : S0) : Seg where
  path := [1, 3, 1, 3, 1, 3, 1, 4, 1, 0, 1, 1, 1, 1, 1, 1, 1, 1]
  prep := []
  keep := [0, 2, 5, 6, 7, 65]
  F := fun tvs blks {β} K => match tvs, blks with
    | [.v (.one (.d .str x0)), .v (.one (.ptr 0 0)), .v (.one (.ptr 1 0)), .v (.one (.d .str x1)), .v (.one (.d .bool x2)), .v (.one (.d .bool x3))], [some (.box [(.d (.int .i64) x4), (.d (.int .i64) x5), (.d (.int .u64) x6), (.d .str x7)]), some (.box [(.d (.int .i64) x8), (.d (.int .i64) x9), (.d (.int .u64) x10), (.d .str x11)])] => (g x0 x1 x2 x3 x4 x5 x6 x7 x8 x9 x10 x11).bind fun r => K ⟨.tup [(.agg [(.d (.int .i64) r.1), (.d (.int .i64) r.2.1), (.d (.int .u64) r.2.2.1), (.d .str r.2.2.2.1)]), (.one (.d .str r.2.2.2.2.1)), (.one (.d (.int .i64) r.2.2.2.2.2))], []⟩
    | _, _ => none
  legit := fun _ _ K _ h => by split at h; exact (legit1 K h :); simp at h
def sg1 (g : S1) : Seg where
  path := [1, 1, 1, 1, 1, 1, 1, 1, 1]
  prep := []
  keep := [2, 5, 6, 7]
  F := fun tvs blks {β} K => match tvs, blks with
    | [.v (.one (.ptr 0 0)), .v (.one (.ptr 1 0)), .v (.one (.d .str x0)), .v (.one (.d .bool x1))], [some (.box [(.d (.int .i64) x2), (.d (.int .i64) x3), (.d (.int .u64) x4), (.d .str x5)]), some (.box [(.d (.int .i64) x6), (.d (.int .i64) x7), (.d (.int .u64) x8), (.d .str x9)])] => (g x0 x1 x2 x3 x4 x5 x6 x7 x8 x9).bind fun r => K ⟨.tup [(.agg [(.d (.int .i64) r.1), (.d (.int .i64) r.2.1), (.d (.int .u64) r.2.2.1), (.d .str r.2.2.2.1)]), (.one (.d .str r.2.2.2.2.1)), (.one (.d (.int .i64) r.2.2.2.2.2))], []⟩
    | _, _ => none
  legit := fun _ _ K _ h => by split at h; exact (legit1 K h :); simp at h
noncomputable def env (g58 : transomref04_Check.G) (g87 : transomref05_fixed.G) (g88 : transomref05_Number.G) (g89 : transomref02_Back.G) (g90 : transomref05_plain.G) (s0 : S0) (s1 : S1) : FEnv := { P := prog, ct := fun m => if m = 58 then some (transomref04_Check.ct g58) else if m = 87 then some (transomref05_fixed.ct g87) else if m = 88 then some (transomref05_Number.ct g88) else if m = 89 then some (transomref02_Back.ct g89) else if m = 90 then some (transomref05_plain.ct g90) else none, N := 91, body := f65.body.getD .skip, rvs := [.cell 2 49, .tmp 3, .tmp 4], rts := [49, 9, 3], nin := 0, rmv := [], segs := [sg0 s0, sg1 s1] }
def c {β : Type} (g58 : transomref04_Check.G) (g87 : transomref05_fixed.G) (g88 : transomref05_Number.G) (g89 : transomref02_Back.G) (g90 : transomref05_plain.G) (s0 : S0) (s1 : S1) (a0 : ByteArray) (ret : (Int × Int × Int × ByteArray × ByteArray × Int) → Option β) : Option β := (bif (((ByteArray.size a0) : Int) == (0 : Int)) then (ret ((0 : Int), (0 : Int), (0 : Int), (ByteArray.mk (List.toArray [])), (ByteArray.mk (List.toArray [])), (3 : Int))) else (bif (true && (decide ((0 : Int) < ((ByteArray.size a0) : Int)))) then (bif (decide ((IntKind.wrap IntKind.i64 (bt a0 (0 : Int))) > (5 : Int))) then (ret ((0 : Int), (0 : Int), (0 : Int), (ByteArray.mk (List.toArray [])), (ByteArray.mk (List.toArray [])), (4 : Int))) else (bif ((true && (decide ((1 : Int) ≤ ((ByteArray.size a0) : Int)))) && (decide (((ByteArray.size a0) : Int) ≤ ((ByteArray.size a0) : Int)))) then ((g87 (IntKind.wrap IntKind.i64 (bt a0 (0 : Int)))).bind fun r0 => (bif (decide (((ByteArray.size (ByteArray.extract a0 (1 : Nat) (Int.toNat ((ByteArray.size a0) : Int)))) : Int) < r0)) then (ret ((0 : Int), (0 : Int), (0 : Int), (ByteArray.mk (List.toArray [])), (ByteArray.mk (List.toArray [])), (3 : Int))) else ((g87 (IntKind.wrap IntKind.i64 (bt a0 (0 : Int)))).bind fun r1 => (bif (((decide ((0 : Int) ≤ r1)) && (decide (r1 ≤ ((ByteArray.size (ByteArray.extract a0 (1 : Nat) (Int.toNat ((ByteArray.size a0) : Int)))) : Int)))) && (decide (((ByteArray.size (ByteArray.extract a0 (1 : Nat) (Int.toNat ((ByteArray.size a0) : Int)))) : Int) ≤ ((ByteArray.size (ByteArray.extract a0 (1 : Nat) (Int.toNat ((ByteArray.size a0) : Int)))) : Int)))) then (bif ((IntKind.wrap IntKind.i64 (bt a0 (0 : Int))) == (1 : Int)) then (bif (true && (decide ((0 : Int) < ((ByteArray.size (ByteArray.extract a0 (1 : Nat) (Int.toNat ((ByteArray.size a0) : Int)))) : Int)))) then ((s1 (ByteArray.extract (ByteArray.extract a0 (1 : Nat) (Int.toNat ((ByteArray.size a0) : Int))) (Int.toNat r1) (Int.toNat ((ByteArray.size (ByteArray.extract a0 (1 : Nat) (Int.toNat ((ByteArray.size a0) : Int)))) : Int))) true (0 : Int) (0 : Int) (0 : Int) (ByteArray.mk (List.toArray [])) (IntKind.wrap IntKind.i64 (bt a0 (0 : Int))) (IntKind.wrap IntKind.i64 (bt (ByteArray.extract a0 (1 : Nat) (Int.toNat ((ByteArray.size a0) : Int))) (0 : Int))) (0 : Int) (ByteArray.mk (List.toArray []))).bind ret) else none) else (bif ((IntKind.wrap IntKind.i64 (bt a0 (0 : Int))) == (2 : Int)) then ((g88 (ByteArray.extract a0 (1 : Nat) (Int.toNat ((ByteArray.size a0) : Int)))).bind fun r2 => ((s1 (ByteArray.extract (ByteArray.extract a0 (1 : Nat) (Int.toNat ((ByteArray.size a0) : Int))) (Int.toNat r1) (Int.toNat ((ByteArray.size (ByteArray.extract a0 (1 : Nat) (Int.toNat ((ByteArray.size a0) : Int)))) : Int))) true (0 : Int) (0 : Int) (0 : Int) (ByteArray.mk (List.toArray [])) (IntKind.wrap IntKind.i64 (bt a0 (0 : Int))) (IntKind.wrap IntKind.i64 (IntKind.wrap IntKind.u64 ((BitVec.toNat ((BitVec.ofInt (64 : Nat) r2) ^^^ (BitVec.ofInt (64 : Nat) (9223372036854775808 : Int)))) : Int))) (0 : Int) (ByteArray.mk (List.toArray []))).bind ret)) else (bif ((IntKind.wrap IntKind.i64 (bt a0 (0 : Int))) == (3 : Int)) then ((g88 (ByteArray.extract a0 (1 : Nat) (Int.toNat ((ByteArray.size a0) : Int)))).bind fun r3 => ((g89 r3).bind fun r4 => ((s1 (ByteArray.extract (ByteArray.extract a0 (1 : Nat) (Int.toNat ((ByteArray.size a0) : Int))) (Int.toNat r1) (Int.toNat ((ByteArray.size (ByteArray.extract a0 (1 : Nat) (Int.toNat ((ByteArray.size a0) : Int)))) : Int))) r4.2 (0 : Int) (0 : Int) (0 : Int) (ByteArray.mk (List.toArray [])) (IntKind.wrap IntKind.i64 (bt a0 (0 : Int))) (0 : Int) r4.1 (ByteArray.mk (List.toArray []))).bind ret))) else (bif ((IntKind.wrap IntKind.i64 (bt a0 (0 : Int))) == (4 : Int)) then ((s0 (ByteArray.extract a0 (1 : Nat) (Int.toNat ((ByteArray.size a0) : Int))) (ByteArray.extract (ByteArray.extract a0 (1 : Nat) (Int.toNat ((ByteArray.size a0) : Int))) (Int.toNat r1) (Int.toNat ((ByteArray.size (ByteArray.extract a0 (1 : Nat) (Int.toNat ((ByteArray.size a0) : Int)))) : Int))) true ((IntKind.wrap IntKind.i64 (bt a0 (0 : Int))) == (4 : Int)) (0 : Int) (0 : Int) (0 : Int) (ByteArray.mk (List.toArray [])) (IntKind.wrap IntKind.i64 (bt a0 (0 : Int))) (0 : Int) (0 : Int) (ByteArray.mk (List.toArray []))).bind ret) else ((s0 (ByteArray.extract a0 (1 : Nat) (Int.toNat ((ByteArray.size a0) : Int))) (ByteArray.extract (ByteArray.extract a0 (1 : Nat) (Int.toNat ((ByteArray.size a0) : Int))) (Int.toNat r1) (Int.toNat ((ByteArray.size (ByteArray.extract a0 (1 : Nat) (Int.toNat ((ByteArray.size a0) : Int)))) : Int))) true ((IntKind.wrap IntKind.i64 (bt a0 (0 : Int))) == (5 : Int)) (0 : Int) (0 : Int) (0 : Int) (ByteArray.mk (List.toArray [])) (IntKind.wrap IntKind.i64 (bt a0 (0 : Int))) (0 : Int) (0 : Int) (ByteArray.mk (List.toArray []))).bind ret))))) else none)))) else none)) else none))
def s0c {β : Type} (g58 : transomref04_Check.G) (g87 : transomref05_fixed.G) (g88 : transomref05_Number.G) (g89 : transomref02_Back.G) (g90 : transomref05_plain.G) (s0 : S0) (s1 : S1) (x0 : ByteArray) (x1 : ByteArray) (x2 : Bool) (x3 : Bool) (x4 : Int) (x5 : Int) (x6 : Int) (x7 : ByteArray) (x8 : Int) (x9 : Int) (x10 : Int) (x11 : ByteArray) (ret : (Int × Int × Int × ByteArray × ByteArray × Int) → Option β) : Option β := (bif x3 then ((g90 x0).bind fun r0 => (bif (r0.2.2 != (0 : Int)) then (ret ((0 : Int), (0 : Int), (0 : Int), (ByteArray.mk (List.toArray [])), (ByteArray.mk (List.toArray [])), r0.2.2)) else ((s1 r0.2.1 x2 x4 x5 x6 x7 x8 x9 x10 r0.1).bind ret))) else ((s1 x1 x2 x4 x5 x6 x7 x8 x9 x10 x11).bind ret))
def s1c {β : Type} (g58 : transomref04_Check.G) (g87 : transomref05_fixed.G) (g88 : transomref05_Number.G) (g89 : transomref02_Back.G) (g90 : transomref05_plain.G) (s0 : S0) (s1 : S1) (x0 : ByteArray) (x1 : Bool) (x2 : Int) (x3 : Int) (x4 : Int) (x5 : ByteArray) (x6 : Int) (x7 : Int) (x8 : Int) (x9 : ByteArray) (ret : (Int × Int × Int × ByteArray × ByteArray × Int) → Option β) : Option β := (bif (!x1) then (ret ((0 : Int), (0 : Int), (0 : Int), (ByteArray.mk (List.toArray [])), (ByteArray.mk (List.toArray [])), (4 : Int))) else ((g58 x6 x7 x8 x9).bind fun r0 => (bif (r0 != (0 : Int)) then (ret ((0 : Int), (0 : Int), (0 : Int), (ByteArray.mk (List.toArray [])), (ByteArray.mk (List.toArray [])), (4 : Int))) else (ret (x6, x7, x8, x9, x0, (0 : Int))))))
theorem c_bind {β : Type} {g58 : transomref04_Check.G} {g87 : transomref05_fixed.G} {g88 : transomref05_Number.G} {g89 : transomref02_Back.G} {g90 : transomref05_plain.G} {s0 : S0} {s1 : S1} {a0 : ByteArray} {ret : (Int × Int × Int × ByteArray × ByteArray × Int) → Option β} : c g58 g87 g88 g89 g90 s0 s1 a0 ret = (c g58 g87 g88 g89 g90 s0 s1 a0 some).bind ret := by
  simp only [c, bif_bind, sum_bind, oa, os, on, ofs]
theorem s0c_bind {β : Type} {g58 : transomref04_Check.G} {g87 : transomref05_fixed.G} {g88 : transomref05_Number.G} {g89 : transomref02_Back.G} {g90 : transomref05_plain.G} {s0 : S0} {s1 : S1} {x0 : ByteArray} {x1 : ByteArray} {x2 : Bool} {x3 : Bool} {x4 : Int} {x5 : Int} {x6 : Int} {x7 : ByteArray} {x8 : Int} {x9 : Int} {x10 : Int} {x11 : ByteArray} {ret : (Int × Int × Int × ByteArray × ByteArray × Int) → Option β} : s0c g58 g87 g88 g89 g90 s0 s1 x0 x1 x2 x3 x4 x5 x6 x7 x8 x9 x10 x11 ret = (s0c g58 g87 g88 g89 g90 s0 s1 x0 x1 x2 x3 x4 x5 x6 x7 x8 x9 x10 x11 some).bind ret := by
  simp only [s0c, bif_bind, sum_bind, oa, os, on, ofs]
theorem s1c_bind {β : Type} {g58 : transomref04_Check.G} {g87 : transomref05_fixed.G} {g88 : transomref05_Number.G} {g89 : transomref02_Back.G} {g90 : transomref05_plain.G} {s0 : S0} {s1 : S1} {x0 : ByteArray} {x1 : Bool} {x2 : Int} {x3 : Int} {x4 : Int} {x5 : ByteArray} {x6 : Int} {x7 : Int} {x8 : Int} {x9 : ByteArray} {ret : (Int × Int × Int × ByteArray × ByteArray × Int) → Option β} : s1c g58 g87 g88 g89 g90 s0 s1 x0 x1 x2 x3 x4 x5 x6 x7 x8 x9 ret = (s1c g58 g87 g88 g89 g90 s0 s1 x0 x1 x2 x3 x4 x5 x6 x7 x8 x9 some).bind ret := by
  simp only [s1c, bif_bind, sum_bind, oa, os, on, ofs]
theorem ev {g58 : transomref04_Check.G} {g87 : transomref05_fixed.G} {g88 : transomref05_Number.G} {g89 : transomref02_Back.G} {g90 : transomref05_plain.G} {s0 : S0} {s1 : S1} {a0 : ByteArray} : evAt (env g58 g87 g88 g89 g90 s0 s1) [] [0] [.v (.one (.d .str a0))] [] some = c g58 g87 g88 g89 g90 s0 s1 a0 (fun r => some ⟨.tup [(.agg [(.d (.int .i64) r.1), (.d (.int .i64) r.2.1), (.d (.int .u64) r.2.2.1), (.d .str r.2.2.2.1)]), (.one (.d .str r.2.2.2.2.1)), (.one (.d (.int .i64) r.2.2.2.2.2))], []⟩) := by
  kernel_rfl
theorem s0_ev {g58 : transomref04_Check.G} {g87 : transomref05_fixed.G} {g88 : transomref05_Number.G} {g89 : transomref02_Back.G} {g90 : transomref05_plain.G} {s0 : S0} {s1 : S1} {x0 : ByteArray} {x1 : ByteArray} {x2 : Bool} {x3 : Bool} {x4 : Int} {x5 : Int} {x6 : Int} {x7 : ByteArray} {x8 : Int} {x9 : Int} {x10 : Int} {x11 : ByteArray} : evAt (env g58 g87 g88 g89 g90 s0 s1) [1, 3, 1, 3, 1, 3, 1, 4, 1, 0, 1, 1, 1, 1, 1, 1, 1, 1] [0, 2, 5, 6, 7, 65] [.v (.one (.d .str x0)), .v (.one (.ptr 0 0)), .v (.one (.ptr 1 0)), .v (.one (.d .str x1)), .v (.one (.d .bool x2)), .v (.one (.d .bool x3))] [some (.box [(.d (.int .i64) x4), (.d (.int .i64) x5), (.d (.int .u64) x6), (.d .str x7)]), some (.box [(.d (.int .i64) x8), (.d (.int .i64) x9), (.d (.int .u64) x10), (.d .str x11)])] some = s0c g58 g87 g88 g89 g90 s0 s1 x0 x1 x2 x3 x4 x5 x6 x7 x8 x9 x10 x11 (fun r => some ⟨.tup [(.agg [(.d (.int .i64) r.1), (.d (.int .i64) r.2.1), (.d (.int .u64) r.2.2.1), (.d .str r.2.2.2.1)]), (.one (.d .str r.2.2.2.2.1)), (.one (.d (.int .i64) r.2.2.2.2.2))], []⟩) := by
  kernel_rfl
theorem s1_ev {g58 : transomref04_Check.G} {g87 : transomref05_fixed.G} {g88 : transomref05_Number.G} {g89 : transomref02_Back.G} {g90 : transomref05_plain.G} {s0 : S0} {s1 : S1} {x0 : ByteArray} {x1 : Bool} {x2 : Int} {x3 : Int} {x4 : Int} {x5 : ByteArray} {x6 : Int} {x7 : Int} {x8 : Int} {x9 : ByteArray} : evAt (env g58 g87 g88 g89 g90 s0 s1) [1, 1, 1, 1, 1, 1, 1, 1, 1] [2, 5, 6, 7] [.v (.one (.ptr 0 0)), .v (.one (.ptr 1 0)), .v (.one (.d .str x0)), .v (.one (.d .bool x1))] [some (.box [(.d (.int .i64) x2), (.d (.int .i64) x3), (.d (.int .u64) x4), (.d .str x5)]), some (.box [(.d (.int .i64) x6), (.d (.int .i64) x7), (.d (.int .u64) x8), (.d .str x9)])] some = s1c g58 g87 g88 g89 g90 s0 s1 x0 x1 x2 x3 x4 x5 x6 x7 x8 x9 (fun r => some ⟨.tup [(.agg [(.d (.int .i64) r.1), (.d (.int .i64) r.2.1), (.d (.int .u64) r.2.2.1), (.d .str r.2.2.2.1)]), (.one (.d .str r.2.2.2.2.1)), (.one (.d (.int .i64) r.2.2.2.2.2))], []⟩) := by
  kernel_rfl
mutual
def s0 : Nat → ByteArray → ByteArray → Bool → Bool → Int → Int → Int → ByteArray → Int → Int → Int → ByteArray → Option (Int × Int × Int × ByteArray × ByteArray × Int)
  | 0, _, _, _, _, _, _, _, _, _, _, _, _ => none
  | k + 1, x0, x1, x2, x3, x4, x5, x6, x7, x8, x9, x10, x11 => s0c (transomref04_Check.f k) (transomref05_fixed.f k) (transomref05_Number.f k) (transomref02_Back.f k) (transomref05_plain.f k) (s0 k) (s1 k) x0 x1 x2 x3 x4 x5 x6 x7 x8 x9 x10 x11 some
def s1 : Nat → ByteArray → Bool → Int → Int → Int → ByteArray → Int → Int → Int → ByteArray → Option (Int × Int × Int × ByteArray × ByteArray × Int)
  | 0, _, _, _, _, _, _, _, _, _, _ => none
  | k + 1, x0, x1, x2, x3, x4, x5, x6, x7, x8, x9 => s1c (transomref04_Check.f k) (transomref05_fixed.f k) (transomref05_Number.f k) (transomref02_Back.f k) (transomref05_plain.f k) (s0 k) (s1 k) x0 x1 x2 x3 x4 x5 x6 x7 x8 x9 some
end
def f (k : Nat) (a0 : ByteArray) : Option (Int × Int × Int × ByteArray × ByteArray × Int) := c (transomref04_Check.f k) (transomref05_fixed.f k) (transomref05_Number.f k) (transomref02_Back.f k) (transomref05_plain.f k) (s0 k) (s1 k) a0 some
theorem is {g58 : transomref04_Check.G} {g87 : transomref05_fixed.G} {g88 : transomref05_Number.G} {g89 : transomref02_Back.G} {g90 : transomref05_plain.G} {s0 : S0} {s1 : S1} : FnIs (env g58 g87 g88 g89 g90 s0 s1) 65 f65 := ⟨func65, rfl, rfl, rfl, by decide⟩
theorem envok {g58 : transomref04_Check.G} {g87 : transomref05_fixed.G} {g88 : transomref05_Number.G} {g89 : transomref02_Back.G} {g90 : transomref05_plain.G} {s0 : S0} {s1 : S1} (h58 : CtOK prog 58 (transomref04_Check.ct g58)) (h87 : CtOK prog 87 (transomref05_fixed.ct g87)) (h88 : CtOK prog 88 (transomref05_Number.ct g88)) (h89 : CtOK prog 89 (transomref02_Back.ct g89)) (h90 : CtOK prog 90 (transomref05_plain.ct g90)) : EnvOK (env g58 g87 g88 g89 g90 s0 s1).toEnv := by
  intro f c h
  simp only [env] at h
  split at h
  · rename_i e; subst e; cases h; exact h58
  split at h
  · rename_i e; subst e; cases h; exact h87
  split at h
  · rename_i e; subst e; cases h; exact h88
  split at h
  · rename_i e; subst e; cases h; exact h89
  split at h
  · rename_i e; subst e; cases h; exact h90
  simp at h
noncomputable abbrev E (k : Nat) : FEnv := env (transomref04_Check.f k) (transomref05_fixed.f k) (transomref05_Number.f k) (transomref02_Back.f k) (transomref05_plain.f k) (s0 k) (s1 k)
theorem hE (k : Nat) : EnvOK (E k).toEnv := envok (transomref04_Check.ok k) (transomref05_fixed.ok k) (transomref05_Number.ok k) (transomref02_Back.ok k) (transomref05_plain.ok k)
theorem segs_ok : ∀ k, ∀ s ∈ (E k).segs, SegOK (E k) f65 s
  | 0 => by
    intro s hs
    simp only [E, env, List.mem_cons, List.not_mem_nil, or_false] at hs
    rcases hs with rfl | rfl
    · intro tvs blks res h; exfalso; simp only [sg0] at h; split at h <;> simp [s0] at h
    · intro tvs blks res h; exfalso; simp only [sg1] at h; split at h <;> simp [s1] at h
  | k + 1 => by
    intro s hs
    simp only [E, env, List.mem_cons, List.not_mem_nil, or_false] at hs
    rcases hs with rfl | rfl
    · refine seg_of_ev (E := E k) (hE k) ⟨is.rvs⟩ (segs_ok k) ?_
      intro tvs blks res h
      simp only [sg0] at h
      split at h
      · exact (s0_ev.trans s0c_bind).trans h
      · simp at h
    · refine seg_of_ev (E := E k) (hE k) ⟨is.rvs⟩ (segs_ok k) ?_
      intro tvs blks res h
      simp only [sg1] at h
      split at h
      · exact (s1_ev.trans s1c_bind).trans h
      · simp at h
theorem ok (k : Nat) : CtOK prog 65 (ct (f k)) := by
  refine ct_of_ev (E := E k) is (hE k) (segs_ok k) rfl ?_
  intro tvs blks res h
  simp only [ct] at h
  split at h
  · exact (ev.trans c_bind).trans h
  · simp at h
end transomref05_Read
namespace transomref09_col
abbrev G : Type := ByteArray → Option (ByteArray × Int × Bool × Int × Int × Int × ByteArray × ByteArray × Int)
def ct (g : G) : Ct where
  nin := 0
  mv := []
  F := fun tvs blks {β} K => match tvs, blks with
    | [.v (.one (.d .str a0))], [] => (g a0).bind fun r => K ⟨.tup [(.agg [(.d .str r.1), (.d (.int .i64) r.2.1), (.d .bool r.2.2.1), (.d (.int .i64) r.2.2.2.1), (.d (.int .i64) r.2.2.2.2.1), (.d (.int .u64) r.2.2.2.2.2.1), (.d .str r.2.2.2.2.2.2.1)]), (.one (.d .str r.2.2.2.2.2.2.2.1)), (.one (.d (.int .i64) r.2.2.2.2.2.2.2.2))], []⟩
    | _, _ => none
  legit := fun _ _ K _ h => by split at h; exact (legit1 K h :); simp at h
noncomputable def env (g41 : transomref03_ReadText.G) (g42 : transomref09_Small.G) (g65 : transomref05_Read.G)  : FEnv := { P := prog, ct := fun m => if m = 41 then some (transomref03_ReadText.ct g41) else if m = 42 then some (transomref09_Small.ct g42) else if m = 65 then some (transomref05_Read.ct g65) else none, N := 58, body := f44.body.getD .skip, rvs := [.cell 2 51, .tmp 3, .tmp 4], rts := [51, 9, 3], nin := 0, rmv := [], segs := [] }
def c {β : Type} (g41 : transomref03_ReadText.G) (g42 : transomref09_Small.G) (g65 : transomref05_Read.G)  (a0 : ByteArray) (ret : (ByteArray × Int × Bool × Int × Int × Int × ByteArray × ByteArray × Int) → Option β) : Option β := ((g41 a0).bind fun r0 => (bif (r0.2.2 != (0 : Int)) then (ret ((ByteArray.mk (List.toArray [])), (0 : Int), false, (0 : Int), (0 : Int), (0 : Int), (ByteArray.mk (List.toArray [])), (ByteArray.mk (List.toArray [])), r0.2.2)) else ((g42 r0.2.1).bind fun r1 => (bif (r1.2.2 != (0 : Int)) then (ret ((ByteArray.mk (List.toArray [])), (0 : Int), false, (0 : Int), (0 : Int), (0 : Int), (ByteArray.mk (List.toArray [])), (ByteArray.mk (List.toArray [])), r1.2.2)) else (bif (((ByteArray.size r1.2.1) : Int) == (0 : Int)) then (ret ((ByteArray.mk (List.toArray [])), (0 : Int), false, (0 : Int), (0 : Int), (0 : Int), (ByteArray.mk (List.toArray [])), (ByteArray.mk (List.toArray [])), (3 : Int))) else (bif (true && (decide ((0 : Int) < ((ByteArray.size r1.2.1) : Int)))) then (bif (decide ((bt r1.2.1 (0 : Int)) > (1 : Int))) then (ret ((ByteArray.mk (List.toArray [])), (0 : Int), false, (0 : Int), (0 : Int), (0 : Int), (ByteArray.mk (List.toArray [])), (ByteArray.mk (List.toArray [])), (4 : Int))) else (bif ((true && (decide ((1 : Int) ≤ ((ByteArray.size r1.2.1) : Int)))) && (decide (((ByteArray.size r1.2.1) : Int) ≤ ((ByteArray.size r1.2.1) : Int)))) then ((g65 (ByteArray.extract r1.2.1 (1 : Nat) (Int.toNat ((ByteArray.size r1.2.1) : Int)))).bind fun r2 => (bif (r2.2.2.2.2.2 != (0 : Int)) then (ret ((ByteArray.mk (List.toArray [])), (0 : Int), false, (0 : Int), (0 : Int), (0 : Int), (ByteArray.mk (List.toArray [])), (ByteArray.mk (List.toArray [])), r2.2.2.2.2.2)) else (bif (true && (decide ((0 : Int) < ((ByteArray.size r1.2.1) : Int)))) then (ret (r0.1, r1.1, ((bt r1.2.1 (0 : Int)) == (1 : Int)), r2.1, r2.2.1, r2.2.2.1, r2.2.2.2.1, r2.2.2.2.2.1, (0 : Int))) else none))) else none)) else none))))))
theorem c_bind {β : Type} {g41 : transomref03_ReadText.G} {g42 : transomref09_Small.G} {g65 : transomref05_Read.G}  {a0 : ByteArray} {ret : (ByteArray × Int × Bool × Int × Int × Int × ByteArray × ByteArray × Int) → Option β} : c g41 g42 g65  a0 ret = (c g41 g42 g65  a0 some).bind ret := by
  simp only [c, bif_bind, sum_bind, oa, os, on, ofs]
theorem ev {g41 : transomref03_ReadText.G} {g42 : transomref09_Small.G} {g65 : transomref05_Read.G}  {a0 : ByteArray} : evAt (env g41 g42 g65 ) [] [0] [.v (.one (.d .str a0))] [] some = c g41 g42 g65  a0 (fun r => some ⟨.tup [(.agg [(.d .str r.1), (.d (.int .i64) r.2.1), (.d .bool r.2.2.1), (.d (.int .i64) r.2.2.2.1), (.d (.int .i64) r.2.2.2.2.1), (.d (.int .u64) r.2.2.2.2.2.1), (.d .str r.2.2.2.2.2.2.1)]), (.one (.d .str r.2.2.2.2.2.2.2.1)), (.one (.d (.int .i64) r.2.2.2.2.2.2.2.2))], []⟩) := by
  kernel_rfl
def f (k : Nat) (a0 : ByteArray) : Option (ByteArray × Int × Bool × Int × Int × Int × ByteArray × ByteArray × Int) := c (transomref03_ReadText.f k) (transomref09_Small.f k) (transomref05_Read.f k)  a0 some
theorem is {g41 : transomref03_ReadText.G} {g42 : transomref09_Small.G} {g65 : transomref05_Read.G}  : FnIs (env g41 g42 g65 ) 44 f44 := ⟨func44, rfl, rfl, rfl, by decide⟩
theorem envok {g41 : transomref03_ReadText.G} {g42 : transomref09_Small.G} {g65 : transomref05_Read.G}  (h41 : CtOK prog 41 (transomref03_ReadText.ct g41)) (h42 : CtOK prog 42 (transomref09_Small.ct g42)) (h65 : CtOK prog 65 (transomref05_Read.ct g65)) : EnvOK (env g41 g42 g65 ).toEnv := by
  intro f c h
  simp only [env] at h
  split at h
  · rename_i e; subst e; cases h; exact h41
  split at h
  · rename_i e; subst e; cases h; exact h42
  split at h
  · rename_i e; subst e; cases h; exact h65
  simp at h
noncomputable abbrev E (k : Nat) : FEnv := env (transomref03_ReadText.f k) (transomref09_Small.f k) (transomref05_Read.f k) 
theorem hE (k : Nat) : EnvOK (E k).toEnv := envok (transomref03_ReadText.ok k) (transomref09_Small.ok k) (transomref05_Read.ok k)
theorem ok (k : Nat) : CtOK prog 44 (ct (f k)) := by
  refine ct_of_ev (E := E k) is (hE k) (fun s hs => by simp [E, env] at hs) rfl ?_
  intro tvs blks res h
  simp only [ct] at h
  split at h
  · exact (ev.trans c_bind).trans h
  · simp at h
end transomref09_col
namespace transomref09_Read
abbrev G : Type := ByteArray → Option (ByteArray × Int × (List D_api_Col) × ByteArray × Int)
def ct (g : G) : Ct where
  nin := 0
  mv := []
  F := fun tvs blks {β} K => match tvs, blks with
    | [.v (.one (.d .str a0))], [] => (g a0).bind fun r => K ⟨.tup [(.agg [(.d .str r.1), (.d (.int .i64) r.2.1), (.d (.sl T_api_Col) r.2.2.1)]), (.one (.d .str r.2.2.2.1)), (.one (.d (.int .i64) r.2.2.2.2))], []⟩
    | _, _ => none
  legit := fun _ _ K _ h => by split at h; exact (legit1 K h :); simp at h
abbrev S0 : Type := ByteArray → Int → Int → ByteArray → Int → ByteArray → Int → (List D_api_Col) → Option (ByteArray × Int × (List D_api_Col) × ByteArray × Int)
def sg0 (g : S0) : Seg where
  path := [4, 1, 0, 1, 1, 1, 1, 1, 1, 1, 1, 1]
  prep := [.cellOwn 9 2 T_api_Col]
  keep := [0, 2, 8, 9, 10]
  F := fun tvs blks {β} K => match tvs, blks with
    | [.v (.one (.d .str x0)), .v (.one (.ptr 0 0)), .v (.one (.d (.int .u64) x1)), .v (.one (.ptr 1 0)), .v (.one (.d (.int .i64) x2))], [some (.box [(.d .str x3), (.d (.int .i64) x4), (.raw (.slice none 0 0))]), some (.box [(.d .str x5), (.d (.int .i64) x6), (.own 2)]), some (.own (.pair .str (.pair (.int .i64) (.pair .bool (.pair (.pair (.int .i64) (.pair (.int .i64) (.pair (.int .u64) (.pair .str .unit)))) .unit)))) false x7)] => (g x0 x1 x2 x3 x4 x5 x6 x7).bind fun r => K ⟨.tup [(.agg [(.d .str r.1), (.d (.int .i64) r.2.1), (.d (.sl T_api_Col) r.2.2.1)]), (.one (.d .str r.2.2.2.1)), (.one (.d (.int .i64) r.2.2.2.2))], []⟩
    | _, _ => none
  legit := fun _ _ K _ h => by split at h; exact (legit1 K h :); simp at h
noncomputable def env (g28 : transomref09_Check.G) (g41 : transomref03_ReadText.G) (g42 : transomref09_Small.G) (g43 : transomref03_ReadUint.G) (g44 : transomref09_col.G) (s0 : S0) : FEnv := { P := prog, ct := fun m => if m = 28 then some (transomref09_Check.ct g28) else if m = 41 then some (transomref03_ReadText.ct g41) else if m = 42 then some (transomref09_Small.ct g42) else if m = 43 then some (transomref03_ReadUint.ct g43) else if m = 44 then some (transomref09_col.ct g44) else none, N := 82, body := f17.body.getD .skip, rvs := [.cell 2 24, .tmp 3, .tmp 4], rts := [24, 9, 3], nin := 0, rmv := [], segs := [sg0 s0] }
def c {β : Type} (g28 : transomref09_Check.G) (g41 : transomref03_ReadText.G) (g42 : transomref09_Small.G) (g43 : transomref03_ReadUint.G) (g44 : transomref09_col.G) (s0 : S0) (a0 : ByteArray) (ret : (ByteArray × Int × (List D_api_Col) × ByteArray × Int) → Option β) : Option β := ((g41 a0).bind fun r0 => (bif (r0.2.2 != (0 : Int)) then (ret ((ByteArray.mk (List.toArray [])), (0 : Int), [], (ByteArray.mk (List.toArray [])), r0.2.2)) else ((g42 r0.2.1).bind fun r1 => (bif (r1.2.2 != (0 : Int)) then (ret ((ByteArray.mk (List.toArray [])), (0 : Int), [], (ByteArray.mk (List.toArray [])), r1.2.2)) else ((g43 r1.2.1).bind fun r2 => (bif (r2.2.2 != (0 : Int)) then (ret ((ByteArray.mk (List.toArray [])), (0 : Int), [], (ByteArray.mk (List.toArray [])), r2.2.2)) else (bif (decide (r2.1 > (8 : Int))) then (ret ((ByteArray.mk (List.toArray [])), (0 : Int), [], (ByteArray.mk (List.toArray [])), (2 : Int))) else ((s0 r2.2.1 r2.1 (0 : Int) (ByteArray.mk (List.toArray [])) (0 : Int) r0.1 r1.1 []).bind ret))))))))
def s0c {β : Type} (g28 : transomref09_Check.G) (g41 : transomref03_ReadText.G) (g42 : transomref09_Small.G) (g43 : transomref03_ReadUint.G) (g44 : transomref09_col.G) (s0 : S0) (x0 : ByteArray) (x1 : Int) (x2 : Int) (x3 : ByteArray) (x4 : Int) (x5 : ByteArray) (x6 : Int) (x7 : List D_api_Col) (ret : (ByteArray × Int × (List D_api_Col) × ByteArray × Int) → Option β) : Option β := (bif (decide (x2 < (IntKind.wrap IntKind.i64 x1))) then ((g44 x0).bind fun r0 => (bif (r0.2.2.2.2.2.2.2.2 != (0 : Int)) then (ret ((ByteArray.mk (List.toArray [])), (0 : Int), [], (ByteArray.mk (List.toArray [])), r0.2.2.2.2.2.2.2.2)) else (bif (decide ((((List.length x7) + (1 : Nat)) * (72 : Nat)) ≤ (35184372088832 : Nat))) then ((s0 r0.2.2.2.2.2.2.2.1 x1 (IntKind.wrap IntKind.i64 (x2 + (1 : Int))) x3 x4 x5 x6 (x7 ++ [(r0.1, (r0.2.1, (r0.2.2.1, ((r0.2.2.2.1, (r0.2.2.2.2.1, (r0.2.2.2.2.2.1, (r0.2.2.2.2.2.2.1, ())))), ()))))])).bind ret) else none))) else ((g28 x5 x6 x7).bind fun r1 => (bif (r1 != (0 : Int)) then (ret ((ByteArray.mk (List.toArray [])), (0 : Int), [], (ByteArray.mk (List.toArray [])), r1)) else (ret (x5, x6, x7, x0, (0 : Int))))))
theorem c_bind {β : Type} {g28 : transomref09_Check.G} {g41 : transomref03_ReadText.G} {g42 : transomref09_Small.G} {g43 : transomref03_ReadUint.G} {g44 : transomref09_col.G} {s0 : S0} {a0 : ByteArray} {ret : (ByteArray × Int × (List D_api_Col) × ByteArray × Int) → Option β} : c g28 g41 g42 g43 g44 s0 a0 ret = (c g28 g41 g42 g43 g44 s0 a0 some).bind ret := by
  simp only [c, bif_bind, sum_bind, oa, os, on, ofs]
theorem s0c_bind {β : Type} {g28 : transomref09_Check.G} {g41 : transomref03_ReadText.G} {g42 : transomref09_Small.G} {g43 : transomref03_ReadUint.G} {g44 : transomref09_col.G} {s0 : S0} {x0 : ByteArray} {x1 : Int} {x2 : Int} {x3 : ByteArray} {x4 : Int} {x5 : ByteArray} {x6 : Int} {x7 : List D_api_Col} {ret : (ByteArray × Int × (List D_api_Col) × ByteArray × Int) → Option β} : s0c g28 g41 g42 g43 g44 s0 x0 x1 x2 x3 x4 x5 x6 x7 ret = (s0c g28 g41 g42 g43 g44 s0 x0 x1 x2 x3 x4 x5 x6 x7 some).bind ret := by
  simp only [s0c, bif_bind, sum_bind, oa, os, on, ofs]
theorem ev {g28 : transomref09_Check.G} {g41 : transomref03_ReadText.G} {g42 : transomref09_Small.G} {g43 : transomref03_ReadUint.G} {g44 : transomref09_col.G} {s0 : S0} {a0 : ByteArray} : evAt (env g28 g41 g42 g43 g44 s0) [] [0] [.v (.one (.d .str a0))] [] some = c g28 g41 g42 g43 g44 s0 a0 (fun r => some ⟨.tup [(.agg [(.d .str r.1), (.d (.int .i64) r.2.1), (.d (.sl T_api_Col) r.2.2.1)]), (.one (.d .str r.2.2.2.1)), (.one (.d (.int .i64) r.2.2.2.2))], []⟩) := by
  kernel_rfl
theorem s0_ev {g28 : transomref09_Check.G} {g41 : transomref03_ReadText.G} {g42 : transomref09_Small.G} {g43 : transomref03_ReadUint.G} {g44 : transomref09_col.G} {s0 : S0} {x0 : ByteArray} {x1 : Int} {x2 : Int} {x3 : ByteArray} {x4 : Int} {x5 : ByteArray} {x6 : Int} {x7 : List D_api_Col} : evAt (env g28 g41 g42 g43 g44 s0) [4, 1, 0, 1, 1, 1, 1, 1, 1, 1, 1, 1] [0, 2, 8, 9, 10] [.v (.one (.d .str x0)), .v (.one (.ptr 0 0)), .v (.one (.d (.int .u64) x1)), .v (.one (.ptr 1 0)), .v (.one (.d (.int .i64) x2))] [some (.box [(.d .str x3), (.d (.int .i64) x4), (.raw (.slice none 0 0))]), some (.box [(.d .str x5), (.d (.int .i64) x6), (.own 2)]), some (.own T_api_Col false x7)] some = s0c g28 g41 g42 g43 g44 s0 x0 x1 x2 x3 x4 x5 x6 x7 (fun r => some ⟨.tup [(.agg [(.d .str r.1), (.d (.int .i64) r.2.1), (.d (.sl T_api_Col) r.2.2.1)]), (.one (.d .str r.2.2.2.1)), (.one (.d (.int .i64) r.2.2.2.2))], []⟩) := by
  kernel_rfl
def s0 : Nat → ByteArray → Int → Int → ByteArray → Int → ByteArray → Int → (List D_api_Col) → Option (ByteArray × Int × (List D_api_Col) × ByteArray × Int)
  | 0, _, _, _, _, _, _, _, _ => none
  | k + 1, x0, x1, x2, x3, x4, x5, x6, x7 => s0c (transomref09_Check.f k) (transomref03_ReadText.f k) (transomref09_Small.f k) (transomref03_ReadUint.f k) (transomref09_col.f k) (s0 k) x0 x1 x2 x3 x4 x5 x6 x7 some
def f (k : Nat) (a0 : ByteArray) : Option (ByteArray × Int × (List D_api_Col) × ByteArray × Int) := c (transomref09_Check.f k) (transomref03_ReadText.f k) (transomref09_Small.f k) (transomref03_ReadUint.f k) (transomref09_col.f k) (s0 k) a0 some
theorem is {g28 : transomref09_Check.G} {g41 : transomref03_ReadText.G} {g42 : transomref09_Small.G} {g43 : transomref03_ReadUint.G} {g44 : transomref09_col.G} {s0 : S0} : FnIs (env g28 g41 g42 g43 g44 s0) 17 f17 := ⟨func17, rfl, rfl, rfl, by decide⟩
theorem envok {g28 : transomref09_Check.G} {g41 : transomref03_ReadText.G} {g42 : transomref09_Small.G} {g43 : transomref03_ReadUint.G} {g44 : transomref09_col.G} {s0 : S0} (h28 : CtOK prog 28 (transomref09_Check.ct g28)) (h41 : CtOK prog 41 (transomref03_ReadText.ct g41)) (h42 : CtOK prog 42 (transomref09_Small.ct g42)) (h43 : CtOK prog 43 (transomref03_ReadUint.ct g43)) (h44 : CtOK prog 44 (transomref09_col.ct g44)) : EnvOK (env g28 g41 g42 g43 g44 s0).toEnv := by
  intro f c h
  simp only [env] at h
  split at h
  · rename_i e; subst e; cases h; exact h28
  split at h
  · rename_i e; subst e; cases h; exact h41
  split at h
  · rename_i e; subst e; cases h; exact h42
  split at h
  · rename_i e; subst e; cases h; exact h43
  split at h
  · rename_i e; subst e; cases h; exact h44
  simp at h
noncomputable abbrev E (k : Nat) : FEnv := env (transomref09_Check.f k) (transomref03_ReadText.f k) (transomref09_Small.f k) (transomref03_ReadUint.f k) (transomref09_col.f k) (s0 k)
theorem hE (k : Nat) : EnvOK (E k).toEnv := envok (transomref09_Check.ok k) (transomref03_ReadText.ok k) (transomref09_Small.ok k) (transomref03_ReadUint.ok k) (transomref09_col.ok k)
theorem segs_ok : ∀ k, ∀ s ∈ (E k).segs, SegOK (E k) f17 s
  | 0 => by
    intro s hs
    simp only [E, env, List.mem_cons, List.not_mem_nil, or_false] at hs
    rcases hs with rfl
    · intro tvs blks res h; exfalso; simp only [sg0] at h; split at h <;> simp [s0] at h
  | k + 1 => by
    intro s hs
    simp only [E, env, List.mem_cons, List.not_mem_nil, or_false] at hs
    rcases hs with rfl
    · refine seg_of_ev (E := E k) (hE k) ⟨is.rvs⟩ (segs_ok k) ?_
      intro tvs blks res h
      simp only [sg0] at h
      split at h
      · exact (s0_ev.trans s0c_bind).trans h
      · simp at h
theorem ok (k : Nat) : CtOK prog 17 (ct (f k)) := by
  refine ct_of_ev (E := E k) is (hE k) (segs_ok k) rfl ?_
  intro tvs blks res h
  simp only [ct] at h
  split at h
  · exact (ev.trans c_bind).trans h
  · simp at h
end transomref09_Read
namespace transomref04_Same
abbrev G : Type := Int → Int → Int → ByteArray → Int → Int → Int → ByteArray → Option Bool
def ct (g : G) : Ct where
  nin := 0
  mv := []
  F := fun tvs blks {β} K => match tvs, blks with
    | [.v (.agg [(.d (.int .i64) a0), (.d (.int .i64) a1), (.d (.int .u64) a2), (.d .str a3)]), .v (.agg [(.d (.int .i64) a4), (.d (.int .i64) a5), (.d (.int .u64) a6), (.d .str a7)])], [] => (g a0 a1 a2 a3 a4 a5 a6 a7).bind fun r => K ⟨.v (.one (.d .bool r)), []⟩
    | _, _ => none
  legit := fun _ _ K _ h => by split at h; exact (legit1 K h :); simp at h
noncomputable def env   : FEnv := { P := prog, ct := fun m => none, N := 31, body := f91.body.getD .skip, rvs := [.tmp 4], rts := [4], nin := 0, rmv := [], segs := [] }
def c {β : Type}   (a0 : Int) (a1 : Int) (a2 : Int) (a3 : ByteArray) (a4 : Int) (a5 : Int) (a6 : Int) (a7 : ByteArray) (ret : Bool → Option β) : Option β := (bif (a0 == a4) then (bif (a1 == a5) then (bif (a2 == a6) then (ret (((ByteArray.toList a3) == (ByteArray.toList a7)))) else (ret (false))) else (ret (false))) else (ret (false)))
theorem c_bind {β : Type}   {a0 : Int} {a1 : Int} {a2 : Int} {a3 : ByteArray} {a4 : Int} {a5 : Int} {a6 : Int} {a7 : ByteArray} {ret : Bool → Option β} : c   a0 a1 a2 a3 a4 a5 a6 a7 ret = (c   a0 a1 a2 a3 a4 a5 a6 a7 some).bind ret := by
  simp only [c, bif_bind, sum_bind, oa, os, on, ofs]
theorem ev   {a0 : Int} {a1 : Int} {a2 : Int} {a3 : ByteArray} {a4 : Int} {a5 : Int} {a6 : Int} {a7 : ByteArray} : evAt (env  ) [] [0, 1] [.v (.agg [(.d (.int .i64) a0), (.d (.int .i64) a1), (.d (.int .u64) a2), (.d .str a3)]), .v (.agg [(.d (.int .i64) a4), (.d (.int .i64) a5), (.d (.int .u64) a6), (.d .str a7)])] [] some = c   a0 a1 a2 a3 a4 a5 a6 a7 (fun r => some ⟨.v (.one (.d .bool r)), []⟩) := by
  kernel_rfl
def f (k : Nat) (a0 : Int) (a1 : Int) (a2 : Int) (a3 : ByteArray) (a4 : Int) (a5 : Int) (a6 : Int) (a7 : ByteArray) : Option Bool := c   a0 a1 a2 a3 a4 a5 a6 a7 some
theorem is   : FnIs (env  ) 91 f91 := ⟨func91, rfl, rfl, rfl, by decide⟩
theorem envok    : EnvOK (env  ).toEnv := by
  intro f c h
  simp only [env] at h
  simp at h
noncomputable abbrev E (k : Nat) : FEnv := env  
theorem hE (k : Nat) : EnvOK (E k).toEnv := envok 
theorem ok (k : Nat) : CtOK prog 91 (ct (f k)) := by
  refine ct_of_ev (E := E k) is (hE k) (fun s hs => by simp [E, env] at hs) rfl ?_
  intro tvs blks res h
  simp only [ct] at h
  split at h
  · exact (ev.trans c_bind).trans h
  · simp at h
end transomref04_Same
namespace transomref09_SameCol
abbrev G : Type := ByteArray → Int → Bool → Int → Int → Int → ByteArray → ByteArray → Int → Bool → Int → Int → Int → ByteArray → Option Bool
def ct (g : G) : Ct where
  nin := 0
  mv := []
  F := fun tvs blks {β} K => match tvs, blks with
    | [.v (.agg [(.d .str a0), (.d (.int .i64) a1), (.d .bool a2), (.d (.int .i64) a3), (.d (.int .i64) a4), (.d (.int .u64) a5), (.d .str a6)]), .v (.agg [(.d .str a7), (.d (.int .i64) a8), (.d .bool a9), (.d (.int .i64) a10), (.d (.int .i64) a11), (.d (.int .u64) a12), (.d .str a13)])], [] => (g a0 a1 a2 a3 a4 a5 a6 a7 a8 a9 a10 a11 a12 a13).bind fun r => K ⟨.v (.one (.d .bool r)), []⟩
    | _, _ => none
  legit := fun _ _ K _ h => by split at h; exact (legit1 K h :); simp at h
noncomputable def env (g91 : transomref04_Same.G)  : FEnv := { P := prog, ct := fun m => if m = 91 then some (transomref04_Same.ct g91) else none, N := 31, body := f66.body.getD .skip, rvs := [.tmp 4], rts := [4], nin := 0, rmv := [], segs := [] }
def c {β : Type} (g91 : transomref04_Same.G)  (a0 : ByteArray) (a1 : Int) (a2 : Bool) (a3 : Int) (a4 : Int) (a5 : Int) (a6 : ByteArray) (a7 : ByteArray) (a8 : Int) (a9 : Bool) (a10 : Int) (a11 : Int) (a12 : Int) (a13 : ByteArray) (ret : Bool → Option β) : Option β := (bif ((ByteArray.toList a0) == (ByteArray.toList a7)) then (bif (a1 == a8) then (bif (a2 == a9) then ((g91 a3 a4 a5 a6 a10 a11 a12 a13).bind fun r0 => (ret (r0))) else (ret (false))) else (ret (false))) else (ret (false)))
theorem c_bind {β : Type} {g91 : transomref04_Same.G}  {a0 : ByteArray} {a1 : Int} {a2 : Bool} {a3 : Int} {a4 : Int} {a5 : Int} {a6 : ByteArray} {a7 : ByteArray} {a8 : Int} {a9 : Bool} {a10 : Int} {a11 : Int} {a12 : Int} {a13 : ByteArray} {ret : Bool → Option β} : c g91  a0 a1 a2 a3 a4 a5 a6 a7 a8 a9 a10 a11 a12 a13 ret = (c g91  a0 a1 a2 a3 a4 a5 a6 a7 a8 a9 a10 a11 a12 a13 some).bind ret := by
  simp only [c, bif_bind, sum_bind, oa, os, on, ofs]
theorem ev {g91 : transomref04_Same.G}  {a0 : ByteArray} {a1 : Int} {a2 : Bool} {a3 : Int} {a4 : Int} {a5 : Int} {a6 : ByteArray} {a7 : ByteArray} {a8 : Int} {a9 : Bool} {a10 : Int} {a11 : Int} {a12 : Int} {a13 : ByteArray} : evAt (env g91 ) [] [0, 1] [.v (.agg [(.d .str a0), (.d (.int .i64) a1), (.d .bool a2), (.d (.int .i64) a3), (.d (.int .i64) a4), (.d (.int .u64) a5), (.d .str a6)]), .v (.agg [(.d .str a7), (.d (.int .i64) a8), (.d .bool a9), (.d (.int .i64) a10), (.d (.int .i64) a11), (.d (.int .u64) a12), (.d .str a13)])] [] some = c g91  a0 a1 a2 a3 a4 a5 a6 a7 a8 a9 a10 a11 a12 a13 (fun r => some ⟨.v (.one (.d .bool r)), []⟩) := by
  kernel_rfl
def f (k : Nat) (a0 : ByteArray) (a1 : Int) (a2 : Bool) (a3 : Int) (a4 : Int) (a5 : Int) (a6 : ByteArray) (a7 : ByteArray) (a8 : Int) (a9 : Bool) (a10 : Int) (a11 : Int) (a12 : Int) (a13 : ByteArray) : Option Bool := c (transomref04_Same.f k)  a0 a1 a2 a3 a4 a5 a6 a7 a8 a9 a10 a11 a12 a13 some
theorem is {g91 : transomref04_Same.G}  : FnIs (env g91 ) 66 f66 := ⟨func66, rfl, rfl, rfl, by decide⟩
theorem envok {g91 : transomref04_Same.G}  (h91 : CtOK prog 91 (transomref04_Same.ct g91)) : EnvOK (env g91 ).toEnv := by
  intro f c h
  simp only [env] at h
  split at h
  · rename_i e; subst e; cases h; exact h91
  simp at h
noncomputable abbrev E (k : Nat) : FEnv := env (transomref04_Same.f k) 
theorem hE (k : Nat) : EnvOK (E k).toEnv := envok (transomref04_Same.ok k)
theorem ok (k : Nat) : CtOK prog 66 (ct (f k)) := by
  refine ct_of_ev (E := E k) is (hE k) (fun s hs => by simp [E, env] at hs) rfl ?_
  intro tvs blks res h
  simp only [ct] at h
  split at h
  · exact (ev.trans c_bind).trans h
  · simp at h
end transomref09_SameCol
end Go.Proofs.YtddlebbjaadbeaaGreatDoor.Aev
