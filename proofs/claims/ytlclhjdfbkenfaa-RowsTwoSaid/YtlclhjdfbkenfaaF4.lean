/- By a program of this session (AEV): functions of the program as plain functions, and that the machine does what they say. -/
import Derived.Test.YtlclhjdfbkenfaaAevW
import Derived.Test.YtlclhjdfbkenfaaProg
import Derived.Laws.Externs
import Derived.Lib.Bytealg
import Derived.Test.YtlclhjdfbkenfaaF1
import Derived.Test.YtlclhjdfbkenfaaF2
import Derived.Test.YtlclhjdfbkenfaaF3
namespace Go.Proofs.Ytlclhjdfbkenfaa.Aev
set_option linter.unusedVariables false
set_option linter.unusedSimpArgs false
set_option maxRecDepth 100000
set_option maxHeartbeats 4000000
open Go
/-! ### rows_reader_value: function 28 -/
def ct_rows_reader_value (g : ByteArray → Int → Option (Int × Int × Int × ByteArray × ByteArray × Int)) : Ct where
  nin := 1
  mv := []
  F := fun tvs blks {β} K => match tvs, blks with
    | [.v (.one (.ptr 0 0))], [.box [(.d .str a0), (.d (.int .i64) a1)]] => (g a0 a1).bind fun r => K ⟨.v (.agg [(.d (.int .i64) r.1), (.d (.int .i64) r.2.1), (.d (.int .u64) r.2.2.1), (.d .str r.2.2.2.1)]), [some (.box [(.d .str r.2.2.2.2.1), (.d (.int .i64) r.2.2.2.2.2)])]⟩
    | _, _ => none
  legit := fun tvs blks K r h => by
    split at h
    · obtain ⟨x, hx, hk⟩ := Option.bind_eq_some_iff.1 h
      refine ⟨_, ?_, hk⟩
      simp only [hx, Option.bind_some]
    · simp at h
def seg_rows_reader_value_0 (g : ByteArray → Int → Int → Int → Int → ByteArray → Int → Int → Int → ByteArray → Option (Int × Int × Int × ByteArray × ByteArray × Int)) : Seg where
  path := [1, 1, 1]
  prep := []
  keep := [0, 2, 3]
  F := fun tvs blks {β} K => match tvs, blks with
    | [.v (.one (.ptr 0 0)), .v (.one (.ptr 1 0)), .v (.one (.ptr 2 0))], [some (.box [(.d .str x0), (.d (.int .i64) x1)]), some (.box [(.d (.int .i64) x2), (.d (.int .i64) x3), (.d (.int .u64) x4), (.d .str x5)]), some (.box [(.d (.int .i64) x6), (.d (.int .i64) x7), (.d (.int .u64) x8), (.d .str x9)])] => (g x0 x1 x2 x3 x4 x5 x6 x7 x8 x9).bind fun r => K ⟨.v (.agg [(.d (.int .i64) r.1), (.d (.int .i64) r.2.1), (.d (.int .u64) r.2.2.1), (.d .str r.2.2.2.1)]), [some (.box [(.d .str r.2.2.2.2.1), (.d (.int .i64) r.2.2.2.2.2)])]⟩
    | _, _ => none
  legit := fun tvs blks K r h => by
    split at h
    · obtain ⟨x, hx, hk⟩ := Option.bind_eq_some_iff.1 h
      refine ⟨_, ?_, hk⟩
      simp only [hx, Option.bind_some]
    · simp at h
def seg_rows_reader_value_1 (g : ByteArray → Int → Int → ByteArray → Int → Int → Int → Int → ByteArray → Int → Int → Int → ByteArray → Option (Int × Int × Int × ByteArray × ByteArray × Int)) : Seg where
  path := [4, 1, 1, 2, 1, 3, 1, 3, 1, 3, 1, 4, 1, 0, 1, 1, 1]
  prep := []
  keep := [0, 2, 3, 9, 68, 69]
  F := fun tvs blks {β} K => match tvs, blks with
    | [.v (.one (.ptr 0 0)), .v (.one (.ptr 1 0)), .v (.one (.ptr 2 0)), .v (.one (.d .str x0)), .v (.one (.d (.int .i64) x1)), .v (.one (.d (.int .i64) x2))], [some (.box [(.d .str x3), (.d (.int .i64) x4)]), some (.box [(.d (.int .i64) x5), (.d (.int .i64) x6), (.d (.int .u64) x7), (.d .str x8)]), some (.box [(.d (.int .i64) x9), (.d (.int .i64) x10), (.d (.int .u64) x11), (.d .str x12)])] => (g x0 x1 x2 x3 x4 x5 x6 x7 x8 x9 x10 x11 x12).bind fun r => K ⟨.v (.agg [(.d (.int .i64) r.1), (.d (.int .i64) r.2.1), (.d (.int .u64) r.2.2.1), (.d .str r.2.2.2.1)]), [some (.box [(.d .str r.2.2.2.2.1), (.d (.int .i64) r.2.2.2.2.2)])]⟩
    | _, _ => none
  legit := fun tvs blks K r h => by
    split at h
    · obtain ⟨x, hx, hk⟩ := Option.bind_eq_some_iff.1 h
      refine ⟨_, ?_, hk⟩
      simp only [hx, Option.bind_some]
    · simp at h
def seg_rows_reader_value_2 (g : Bool → ByteArray → Int → Int → Int → Int → ByteArray → Int → Int → Int → ByteArray → Option (Int × Int × Int × ByteArray × ByteArray × Int)) : Seg where
  path := [1, 3, 1, 3, 1, 3, 1, 3, 1, 4, 1, 0, 1, 1, 1]
  prep := []
  keep := [0, 2, 3, 82]
  F := fun tvs blks {β} K => match tvs, blks with
    | [.v (.one (.ptr 0 0)), .v (.one (.ptr 1 0)), .v (.one (.ptr 2 0)), .v (.one (.d .bool x0))], [some (.box [(.d .str x1), (.d (.int .i64) x2)]), some (.box [(.d (.int .i64) x3), (.d (.int .i64) x4), (.d (.int .u64) x5), (.d .str x6)]), some (.box [(.d (.int .i64) x7), (.d (.int .i64) x8), (.d (.int .u64) x9), (.d .str x10)])] => (g x0 x1 x2 x3 x4 x5 x6 x7 x8 x9 x10).bind fun r => K ⟨.v (.agg [(.d (.int .i64) r.1), (.d (.int .i64) r.2.1), (.d (.int .u64) r.2.2.1), (.d .str r.2.2.2.1)]), [some (.box [(.d .str r.2.2.2.2.1), (.d (.int .i64) r.2.2.2.2.2)])]⟩
    | _, _ => none
  legit := fun tvs blks K r h => by
    split at h
    · obtain ⟨x, hx, hk⟩ := Option.bind_eq_some_iff.1 h
      refine ⟨_, ?_, hk⟩
      simp only [hx, Option.bind_some]
    · simp at h
noncomputable def env_rows_reader_value (g22 : Int → Int → Int → ByteArray → Option Int) (g47 : Int → ByteArray → Int → Option (ByteArray × ByteArray × Int)) (g48 : Int → ByteArray → Int → Option (ByteArray × Int)) (g49 : ByteArray → Option (Int × ByteArray × Int)) (g50 : ByteArray → Option (ByteArray × ByteArray × Int)) (s0 : ByteArray → Int → Int → Int → Int → ByteArray → Int → Int → Int → ByteArray → Option (Int × Int × Int × ByteArray × ByteArray × Int)) (s1 : ByteArray → Int → Int → ByteArray → Int → Int → Int → Int → ByteArray → Int → Int → Int → ByteArray → Option (Int × Int × Int × ByteArray × ByteArray × Int)) (s2 : Bool → ByteArray → Int → Int → Int → Int → ByteArray → Int → Int → Int → ByteArray → Option (Int × Int × Int × ByteArray × ByteArray × Int)) : FEnv := { P := Go.Proofs.Try.prog, ct := fun m => if m = 22 then some (ct_values_Check g22) else if m = 47 then some (ct_rows_reader_take g47) else if m = 48 then some (ct_rows_reader_fail g48) else if m = 49 then some (ct_pack_ReadInt g49) else if m = 50 then some (ct_pack_ReadText g50) else none, N := 108, body := Go.Proofs.Try.f28.body.getD .skip, rvs := [.cell 2 45], rts := [45], nin := 1, rmv := [], segs := [seg_rows_reader_value_0 s0, seg_rows_reader_value_1 s1, seg_rows_reader_value_2 s2] }
def rows_reader_value.c {β : Type} (g22 : Int → Int → Int → ByteArray → Option Int) (g47 : Int → ByteArray → Int → Option (ByteArray × ByteArray × Int)) (g48 : Int → ByteArray → Int → Option (ByteArray × Int)) (g49 : ByteArray → Option (Int × ByteArray × Int)) (g50 : ByteArray → Option (ByteArray × ByteArray × Int)) (s0 : ByteArray → Int → Int → Int → Int → ByteArray → Int → Int → Int → ByteArray → Option (Int × Int × Int × ByteArray × ByteArray × Int)) (s1 : ByteArray → Int → Int → ByteArray → Int → Int → Int → Int → ByteArray → Int → Int → Int → ByteArray → Option (Int × Int × Int × ByteArray × ByteArray × Int)) (s2 : Bool → ByteArray → Int → Int → Int → Int → ByteArray → Int → Int → Int → ByteArray → Option (Int × Int × Int × ByteArray × ByteArray × Int)) (a0 : ByteArray) (a1 : Int) (ret : (Int × Int × Int × ByteArray × ByteArray × Int) → Option β) : Option β := ((g47 (1 : Int) a0 a1).bind fun r0 => (bif (!((ByteArray.toList r0.1) == (ByteArray.toList (ByteArray.mk (List.toArray []))))) then (bif (true && (decide ((0 : Int) < ((ByteArray.size r0.1) : Int)))) then ((s0 r0.2.1 r0.2.2 (0 : Int) (0 : Int) (0 : Int) (ByteArray.mk (List.toArray [])) (IntKind.wrap IntKind.i64 (bt r0.1 (0 : Int))) (0 : Int) (0 : Int) (ByteArray.mk (List.toArray []))).bind ret) else none) else ((s0 r0.2.1 r0.2.2 (0 : Int) (0 : Int) (0 : Int) (ByteArray.mk (List.toArray [])) (0 : Int) (0 : Int) (0 : Int) (ByteArray.mk (List.toArray []))).bind ret)))
def rows_reader_value.s0c {β : Type} (g22 : Int → Int → Int → ByteArray → Option Int) (g47 : Int → ByteArray → Int → Option (ByteArray × ByteArray × Int)) (g48 : Int → ByteArray → Int → Option (ByteArray × Int)) (g49 : ByteArray → Option (Int × ByteArray × Int)) (g50 : ByteArray → Option (ByteArray × ByteArray × Int)) (s0 : ByteArray → Int → Int → Int → Int → ByteArray → Int → Int → Int → ByteArray → Option (Int × Int × Int × ByteArray × ByteArray × Int)) (s1 : ByteArray → Int → Int → ByteArray → Int → Int → Int → Int → ByteArray → Int → Int → Int → ByteArray → Option (Int × Int × Int × ByteArray × ByteArray × Int)) (s2 : Bool → ByteArray → Int → Int → Int → Int → ByteArray → Int → Int → Int → ByteArray → Option (Int × Int × Int × ByteArray × ByteArray × Int)) (x0 : ByteArray) (x1 : Int) (x2 : Int) (x3 : Int) (x4 : Int) (x5 : ByteArray) (x6 : Int) (x7 : Int) (x8 : Int) (x9 : ByteArray) (ret : (Int × Int × Int × ByteArray × ByteArray × Int) → Option β) : Option β := (bif (x6 == (0 : Int)) then ((g22 x6 x7 x8 x9).bind fun r0 => ((g48 r0 x0 x1).bind fun r1 => (ret (x6, x7, x8, x9, r1.1, r1.2)))) else (bif (x6 == (1 : Int)) then ((g47 (1 : Int) x0 x1).bind fun r2 => (bif (!((ByteArray.toList r2.1) == (ByteArray.toList (ByteArray.mk (List.toArray []))))) then (bif (true && (decide ((0 : Int) < ((ByteArray.size r2.1) : Int)))) then (bif (decide ((IntKind.wrap IntKind.i64 (bt r2.1 (0 : Int))) > (1 : Int))) then ((g48 (6 : Int) r2.2.1 r2.2.2).bind fun r3 => ((g22 x6 (IntKind.wrap IntKind.i64 (bt r2.1 (0 : Int))) x8 x9).bind fun r4 => ((g48 r4 r3.1 r3.2).bind fun r5 => (ret (x6, (IntKind.wrap IntKind.i64 (bt r2.1 (0 : Int))), x8, x9, r5.1, r5.2))))) else ((g22 x6 (IntKind.wrap IntKind.i64 (bt r2.1 (0 : Int))) x8 x9).bind fun r6 => ((g48 r6 r2.2.1 r2.2.2).bind fun r7 => (ret (x6, (IntKind.wrap IntKind.i64 (bt r2.1 (0 : Int))), x8, x9, r7.1, r7.2))))) else none) else (bif (decide (x7 > (1 : Int))) then ((g48 (6 : Int) r2.2.1 r2.2.2).bind fun r8 => ((g22 x6 x7 x8 x9).bind fun r9 => ((g48 r9 r8.1 r8.2).bind fun r10 => (ret (x6, x7, x8, x9, r10.1, r10.2))))) else ((g22 x6 x7 x8 x9).bind fun r11 => ((g48 r11 r2.2.1 r2.2.2).bind fun r12 => (ret (x6, x7, x8, x9, r12.1, r12.2))))))) else (bif (x6 == (2 : Int)) then ((g49 x0).bind fun r13 => ((g48 r13.2.2 r13.2.1 x1).bind fun r14 => ((g22 x6 r13.1 x8 x9).bind fun r15 => ((g48 r15 r14.1 r14.2).bind fun r16 => (ret (x6, r13.1, x8, x9, r16.1, r16.2)))))) else (bif (x6 == (3 : Int)) then ((g47 (8 : Int) x0 x1).bind fun r17 => ((s1 r17.1 ((ByteArray.size r17.1) : Int) (0 : Int) r17.2.1 r17.2.2 x2 x3 x4 x5 x6 x7 x8 x9).bind ret)) else (bif (x6 == (4 : Int)) then ((s2 (x6 == (4 : Int)) x0 x1 x2 x3 x4 x5 x6 x7 x8 x9).bind ret) else ((s2 (x6 == (5 : Int)) x0 x1 x2 x3 x4 x5 x6 x7 x8 x9).bind ret))))))
def rows_reader_value.s1c {β : Type} (g22 : Int → Int → Int → ByteArray → Option Int) (g47 : Int → ByteArray → Int → Option (ByteArray × ByteArray × Int)) (g48 : Int → ByteArray → Int → Option (ByteArray × Int)) (g49 : ByteArray → Option (Int × ByteArray × Int)) (g50 : ByteArray → Option (ByteArray × ByteArray × Int)) (s0 : ByteArray → Int → Int → Int → Int → ByteArray → Int → Int → Int → ByteArray → Option (Int × Int × Int × ByteArray × ByteArray × Int)) (s1 : ByteArray → Int → Int → ByteArray → Int → Int → Int → Int → ByteArray → Int → Int → Int → ByteArray → Option (Int × Int × Int × ByteArray × ByteArray × Int)) (s2 : Bool → ByteArray → Int → Int → Int → Int → ByteArray → Int → Int → Int → ByteArray → Option (Int × Int × Int × ByteArray × ByteArray × Int)) (x0 : ByteArray) (x1 : Int) (x2 : Int) (x3 : ByteArray) (x4 : Int) (x5 : Int) (x6 : Int) (x7 : Int) (x8 : ByteArray) (x9 : Int) (x10 : Int) (x11 : Int) (x12 : ByteArray) (ret : (Int × Int × Int × ByteArray × ByteArray × Int) → Option β) : Option β := (bif (decide (x2 < x1)) then (bif ((decide ((0 : Int) ≤ x2)) && (decide (x2 < ((ByteArray.size x0) : Int)))) then ((s1 x0 x1 (IntKind.wrap IntKind.i64 (x2 + (1 : Int))) x3 x4 x5 x6 x7 x8 x9 x10 (IntKind.wrap IntKind.u64 ((BitVec.toNat ((BitVec.ofInt (64 : Nat) (IntKind.wrap IntKind.u64 (x11 * (256 : Int)))) ||| (BitVec.ofInt (64 : Nat) (IntKind.wrap IntKind.u64 (bt x0 x2))))) : Int)) x12).bind ret) else none) else ((g22 x9 x10 x11 x12).bind fun r0 => ((g48 r0 x3 x4).bind fun r1 => (ret (x9, x10, x11, x12, r1.1, r1.2)))))
def rows_reader_value.s2c {β : Type} (g22 : Int → Int → Int → ByteArray → Option Int) (g47 : Int → ByteArray → Int → Option (ByteArray × ByteArray × Int)) (g48 : Int → ByteArray → Int → Option (ByteArray × Int)) (g49 : ByteArray → Option (Int × ByteArray × Int)) (g50 : ByteArray → Option (ByteArray × ByteArray × Int)) (s0 : ByteArray → Int → Int → Int → Int → ByteArray → Int → Int → Int → ByteArray → Option (Int × Int × Int × ByteArray × ByteArray × Int)) (s1 : ByteArray → Int → Int → ByteArray → Int → Int → Int → Int → ByteArray → Int → Int → Int → ByteArray → Option (Int × Int × Int × ByteArray × ByteArray × Int)) (s2 : Bool → ByteArray → Int → Int → Int → Int → ByteArray → Int → Int → Int → ByteArray → Option (Int × Int × Int × ByteArray × ByteArray × Int)) (x0 : Bool) (x1 : ByteArray) (x2 : Int) (x3 : Int) (x4 : Int) (x5 : Int) (x6 : ByteArray) (x7 : Int) (x8 : Int) (x9 : Int) (x10 : ByteArray) (ret : (Int × Int × Int × ByteArray × ByteArray × Int) → Option β) : Option β := (bif x0 then ((g50 x1).bind fun r0 => ((g48 r0.2.2 r0.2.1 x2).bind fun r1 => ((g22 x7 x8 x9 r0.1).bind fun r2 => ((g48 r2 r1.1 r1.2).bind fun r3 => (ret (x7, x8, x9, r0.1, r3.1, r3.2)))))) else ((g48 (5 : Int) x1 x2).bind fun r4 => ((g22 x7 x8 x9 x10).bind fun r5 => ((g48 r5 r4.1 r4.2).bind fun r6 => (ret (x7, x8, x9, x10, r6.1, r6.2))))))
theorem rows_reader_value.c_bind {β : Type} (g22 : Int → Int → Int → ByteArray → Option Int) (g47 : Int → ByteArray → Int → Option (ByteArray × ByteArray × Int)) (g48 : Int → ByteArray → Int → Option (ByteArray × Int)) (g49 : ByteArray → Option (Int × ByteArray × Int)) (g50 : ByteArray → Option (ByteArray × ByteArray × Int)) (s0 : ByteArray → Int → Int → Int → Int → ByteArray → Int → Int → Int → ByteArray → Option (Int × Int × Int × ByteArray × ByteArray × Int)) (s1 : ByteArray → Int → Int → ByteArray → Int → Int → Int → Int → ByteArray → Int → Int → Int → ByteArray → Option (Int × Int × Int × ByteArray × ByteArray × Int)) (s2 : Bool → ByteArray → Int → Int → Int → Int → ByteArray → Int → Int → Int → ByteArray → Option (Int × Int × Int × ByteArray × ByteArray × Int)) (a0 : ByteArray) (a1 : Int) (ret : (Int × Int × Int × ByteArray × ByteArray × Int) → Option β) : rows_reader_value.c g22 g47 g48 g49 g50 s0 s1 s2 a0 a1 ret = (rows_reader_value.c g22 g47 g48 g49 g50 s0 s1 s2 a0 a1 some).bind ret := by
  simp only [rows_reader_value.c, bif_bind, sum_bind, Option.bind_assoc, Option.bind_some, Option.bind_none, Option.bind_fun_some]
theorem rows_reader_value.s0c_bind {β : Type} (g22 : Int → Int → Int → ByteArray → Option Int) (g47 : Int → ByteArray → Int → Option (ByteArray × ByteArray × Int)) (g48 : Int → ByteArray → Int → Option (ByteArray × Int)) (g49 : ByteArray → Option (Int × ByteArray × Int)) (g50 : ByteArray → Option (ByteArray × ByteArray × Int)) (s0 : ByteArray → Int → Int → Int → Int → ByteArray → Int → Int → Int → ByteArray → Option (Int × Int × Int × ByteArray × ByteArray × Int)) (s1 : ByteArray → Int → Int → ByteArray → Int → Int → Int → Int → ByteArray → Int → Int → Int → ByteArray → Option (Int × Int × Int × ByteArray × ByteArray × Int)) (s2 : Bool → ByteArray → Int → Int → Int → Int → ByteArray → Int → Int → Int → ByteArray → Option (Int × Int × Int × ByteArray × ByteArray × Int)) (x0 : ByteArray) (x1 : Int) (x2 : Int) (x3 : Int) (x4 : Int) (x5 : ByteArray) (x6 : Int) (x7 : Int) (x8 : Int) (x9 : ByteArray) (ret : (Int × Int × Int × ByteArray × ByteArray × Int) → Option β) : rows_reader_value.s0c g22 g47 g48 g49 g50 s0 s1 s2 x0 x1 x2 x3 x4 x5 x6 x7 x8 x9 ret = (rows_reader_value.s0c g22 g47 g48 g49 g50 s0 s1 s2 x0 x1 x2 x3 x4 x5 x6 x7 x8 x9 some).bind ret := by
  simp only [rows_reader_value.s0c, bif_bind, sum_bind, Option.bind_assoc, Option.bind_some, Option.bind_none, Option.bind_fun_some]
theorem rows_reader_value.s1c_bind {β : Type} (g22 : Int → Int → Int → ByteArray → Option Int) (g47 : Int → ByteArray → Int → Option (ByteArray × ByteArray × Int)) (g48 : Int → ByteArray → Int → Option (ByteArray × Int)) (g49 : ByteArray → Option (Int × ByteArray × Int)) (g50 : ByteArray → Option (ByteArray × ByteArray × Int)) (s0 : ByteArray → Int → Int → Int → Int → ByteArray → Int → Int → Int → ByteArray → Option (Int × Int × Int × ByteArray × ByteArray × Int)) (s1 : ByteArray → Int → Int → ByteArray → Int → Int → Int → Int → ByteArray → Int → Int → Int → ByteArray → Option (Int × Int × Int × ByteArray × ByteArray × Int)) (s2 : Bool → ByteArray → Int → Int → Int → Int → ByteArray → Int → Int → Int → ByteArray → Option (Int × Int × Int × ByteArray × ByteArray × Int)) (x0 : ByteArray) (x1 : Int) (x2 : Int) (x3 : ByteArray) (x4 : Int) (x5 : Int) (x6 : Int) (x7 : Int) (x8 : ByteArray) (x9 : Int) (x10 : Int) (x11 : Int) (x12 : ByteArray) (ret : (Int × Int × Int × ByteArray × ByteArray × Int) → Option β) : rows_reader_value.s1c g22 g47 g48 g49 g50 s0 s1 s2 x0 x1 x2 x3 x4 x5 x6 x7 x8 x9 x10 x11 x12 ret = (rows_reader_value.s1c g22 g47 g48 g49 g50 s0 s1 s2 x0 x1 x2 x3 x4 x5 x6 x7 x8 x9 x10 x11 x12 some).bind ret := by
  simp only [rows_reader_value.s1c, bif_bind, sum_bind, Option.bind_assoc, Option.bind_some, Option.bind_none, Option.bind_fun_some]
theorem rows_reader_value.s2c_bind {β : Type} (g22 : Int → Int → Int → ByteArray → Option Int) (g47 : Int → ByteArray → Int → Option (ByteArray × ByteArray × Int)) (g48 : Int → ByteArray → Int → Option (ByteArray × Int)) (g49 : ByteArray → Option (Int × ByteArray × Int)) (g50 : ByteArray → Option (ByteArray × ByteArray × Int)) (s0 : ByteArray → Int → Int → Int → Int → ByteArray → Int → Int → Int → ByteArray → Option (Int × Int × Int × ByteArray × ByteArray × Int)) (s1 : ByteArray → Int → Int → ByteArray → Int → Int → Int → Int → ByteArray → Int → Int → Int → ByteArray → Option (Int × Int × Int × ByteArray × ByteArray × Int)) (s2 : Bool → ByteArray → Int → Int → Int → Int → ByteArray → Int → Int → Int → ByteArray → Option (Int × Int × Int × ByteArray × ByteArray × Int)) (x0 : Bool) (x1 : ByteArray) (x2 : Int) (x3 : Int) (x4 : Int) (x5 : Int) (x6 : ByteArray) (x7 : Int) (x8 : Int) (x9 : Int) (x10 : ByteArray) (ret : (Int × Int × Int × ByteArray × ByteArray × Int) → Option β) : rows_reader_value.s2c g22 g47 g48 g49 g50 s0 s1 s2 x0 x1 x2 x3 x4 x5 x6 x7 x8 x9 x10 ret = (rows_reader_value.s2c g22 g47 g48 g49 g50 s0 s1 s2 x0 x1 x2 x3 x4 x5 x6 x7 x8 x9 x10 some).bind ret := by
  simp only [rows_reader_value.s2c, bif_bind, sum_bind, Option.bind_assoc, Option.bind_some, Option.bind_none, Option.bind_fun_some]
theorem rows_reader_value.ev (g22 : Int → Int → Int → ByteArray → Option Int) (g47 : Int → ByteArray → Int → Option (ByteArray × ByteArray × Int)) (g48 : Int → ByteArray → Int → Option (ByteArray × Int)) (g49 : ByteArray → Option (Int × ByteArray × Int)) (g50 : ByteArray → Option (ByteArray × ByteArray × Int)) (s0 : ByteArray → Int → Int → Int → Int → ByteArray → Int → Int → Int → ByteArray → Option (Int × Int × Int × ByteArray × ByteArray × Int)) (s1 : ByteArray → Int → Int → ByteArray → Int → Int → Int → Int → ByteArray → Int → Int → Int → ByteArray → Option (Int × Int × Int × ByteArray × ByteArray × Int)) (s2 : Bool → ByteArray → Int → Int → Int → Int → ByteArray → Int → Int → Int → ByteArray → Option (Int × Int × Int × ByteArray × ByteArray × Int)) (a0 : ByteArray) (a1 : Int) : evAt (env_rows_reader_value g22 g47 g48 g49 g50 s0 s1 s2) [] [0] [.v (.one (.ptr 0 0))] [some (.box [(.d .str a0), (.d (.int .i64) a1)])] some = rows_reader_value.c g22 g47 g48 g49 g50 s0 s1 s2 a0 a1 (fun r => some ⟨.v (.agg [(.d (.int .i64) r.1), (.d (.int .i64) r.2.1), (.d (.int .u64) r.2.2.1), (.d .str r.2.2.2.1)]), [some (.box [(.d .str r.2.2.2.2.1), (.d (.int .i64) r.2.2.2.2.2)])]⟩) := by
  kernel_rfl
theorem rows_reader_value.s0_ev (g22 : Int → Int → Int → ByteArray → Option Int) (g47 : Int → ByteArray → Int → Option (ByteArray × ByteArray × Int)) (g48 : Int → ByteArray → Int → Option (ByteArray × Int)) (g49 : ByteArray → Option (Int × ByteArray × Int)) (g50 : ByteArray → Option (ByteArray × ByteArray × Int)) (s0 : ByteArray → Int → Int → Int → Int → ByteArray → Int → Int → Int → ByteArray → Option (Int × Int × Int × ByteArray × ByteArray × Int)) (s1 : ByteArray → Int → Int → ByteArray → Int → Int → Int → Int → ByteArray → Int → Int → Int → ByteArray → Option (Int × Int × Int × ByteArray × ByteArray × Int)) (s2 : Bool → ByteArray → Int → Int → Int → Int → ByteArray → Int → Int → Int → ByteArray → Option (Int × Int × Int × ByteArray × ByteArray × Int)) (x0 : ByteArray) (x1 : Int) (x2 : Int) (x3 : Int) (x4 : Int) (x5 : ByteArray) (x6 : Int) (x7 : Int) (x8 : Int) (x9 : ByteArray) : evAt (env_rows_reader_value g22 g47 g48 g49 g50 s0 s1 s2) [1, 1, 1] [0, 2, 3] [.v (.one (.ptr 0 0)), .v (.one (.ptr 1 0)), .v (.one (.ptr 2 0))] [some (.box [(.d .str x0), (.d (.int .i64) x1)]), some (.box [(.d (.int .i64) x2), (.d (.int .i64) x3), (.d (.int .u64) x4), (.d .str x5)]), some (.box [(.d (.int .i64) x6), (.d (.int .i64) x7), (.d (.int .u64) x8), (.d .str x9)])] some = rows_reader_value.s0c g22 g47 g48 g49 g50 s0 s1 s2 x0 x1 x2 x3 x4 x5 x6 x7 x8 x9 (fun r => some ⟨.v (.agg [(.d (.int .i64) r.1), (.d (.int .i64) r.2.1), (.d (.int .u64) r.2.2.1), (.d .str r.2.2.2.1)]), [some (.box [(.d .str r.2.2.2.2.1), (.d (.int .i64) r.2.2.2.2.2)])]⟩) := by
  kernel_rfl
theorem rows_reader_value.s1_ev (g22 : Int → Int → Int → ByteArray → Option Int) (g47 : Int → ByteArray → Int → Option (ByteArray × ByteArray × Int)) (g48 : Int → ByteArray → Int → Option (ByteArray × Int)) (g49 : ByteArray → Option (Int × ByteArray × Int)) (g50 : ByteArray → Option (ByteArray × ByteArray × Int)) (s0 : ByteArray → Int → Int → Int → Int → ByteArray → Int → Int → Int → ByteArray → Option (Int × Int × Int × ByteArray × ByteArray × Int)) (s1 : ByteArray → Int → Int → ByteArray → Int → Int → Int → Int → ByteArray → Int → Int → Int → ByteArray → Option (Int × Int × Int × ByteArray × ByteArray × Int)) (s2 : Bool → ByteArray → Int → Int → Int → Int → ByteArray → Int → Int → Int → ByteArray → Option (Int × Int × Int × ByteArray × ByteArray × Int)) (x0 : ByteArray) (x1 : Int) (x2 : Int) (x3 : ByteArray) (x4 : Int) (x5 : Int) (x6 : Int) (x7 : Int) (x8 : ByteArray) (x9 : Int) (x10 : Int) (x11 : Int) (x12 : ByteArray) : evAt (env_rows_reader_value g22 g47 g48 g49 g50 s0 s1 s2) [4, 1, 1, 2, 1, 3, 1, 3, 1, 3, 1, 4, 1, 0, 1, 1, 1] [0, 2, 3, 9, 68, 69] [.v (.one (.ptr 0 0)), .v (.one (.ptr 1 0)), .v (.one (.ptr 2 0)), .v (.one (.d .str x0)), .v (.one (.d (.int .i64) x1)), .v (.one (.d (.int .i64) x2))] [some (.box [(.d .str x3), (.d (.int .i64) x4)]), some (.box [(.d (.int .i64) x5), (.d (.int .i64) x6), (.d (.int .u64) x7), (.d .str x8)]), some (.box [(.d (.int .i64) x9), (.d (.int .i64) x10), (.d (.int .u64) x11), (.d .str x12)])] some = rows_reader_value.s1c g22 g47 g48 g49 g50 s0 s1 s2 x0 x1 x2 x3 x4 x5 x6 x7 x8 x9 x10 x11 x12 (fun r => some ⟨.v (.agg [(.d (.int .i64) r.1), (.d (.int .i64) r.2.1), (.d (.int .u64) r.2.2.1), (.d .str r.2.2.2.1)]), [some (.box [(.d .str r.2.2.2.2.1), (.d (.int .i64) r.2.2.2.2.2)])]⟩) := by
  kernel_rfl
theorem rows_reader_value.s2_ev (g22 : Int → Int → Int → ByteArray → Option Int) (g47 : Int → ByteArray → Int → Option (ByteArray × ByteArray × Int)) (g48 : Int → ByteArray → Int → Option (ByteArray × Int)) (g49 : ByteArray → Option (Int × ByteArray × Int)) (g50 : ByteArray → Option (ByteArray × ByteArray × Int)) (s0 : ByteArray → Int → Int → Int → Int → ByteArray → Int → Int → Int → ByteArray → Option (Int × Int × Int × ByteArray × ByteArray × Int)) (s1 : ByteArray → Int → Int → ByteArray → Int → Int → Int → Int → ByteArray → Int → Int → Int → ByteArray → Option (Int × Int × Int × ByteArray × ByteArray × Int)) (s2 : Bool → ByteArray → Int → Int → Int → Int → ByteArray → Int → Int → Int → ByteArray → Option (Int × Int × Int × ByteArray × ByteArray × Int)) (x0 : Bool) (x1 : ByteArray) (x2 : Int) (x3 : Int) (x4 : Int) (x5 : Int) (x6 : ByteArray) (x7 : Int) (x8 : Int) (x9 : Int) (x10 : ByteArray) : evAt (env_rows_reader_value g22 g47 g48 g49 g50 s0 s1 s2) [1, 3, 1, 3, 1, 3, 1, 3, 1, 4, 1, 0, 1, 1, 1] [0, 2, 3, 82] [.v (.one (.ptr 0 0)), .v (.one (.ptr 1 0)), .v (.one (.ptr 2 0)), .v (.one (.d .bool x0))] [some (.box [(.d .str x1), (.d (.int .i64) x2)]), some (.box [(.d (.int .i64) x3), (.d (.int .i64) x4), (.d (.int .u64) x5), (.d .str x6)]), some (.box [(.d (.int .i64) x7), (.d (.int .i64) x8), (.d (.int .u64) x9), (.d .str x10)])] some = rows_reader_value.s2c g22 g47 g48 g49 g50 s0 s1 s2 x0 x1 x2 x3 x4 x5 x6 x7 x8 x9 x10 (fun r => some ⟨.v (.agg [(.d (.int .i64) r.1), (.d (.int .i64) r.2.1), (.d (.int .u64) r.2.2.1), (.d .str r.2.2.2.1)]), [some (.box [(.d .str r.2.2.2.2.1), (.d (.int .i64) r.2.2.2.2.2)])]⟩) := by
  kernel_rfl
mutual
def rows_reader_value.s0 : Nat → ByteArray → Int → Int → Int → Int → ByteArray → Int → Int → Int → ByteArray → Option (Int × Int × Int × ByteArray × ByteArray × Int)
  | 0, _, _, _, _, _, _, _, _, _, _ => none
  | k + 1, x0, x1, x2, x3, x4, x5, x6, x7, x8, x9 => rows_reader_value.s0c (values_Check.f k) (rows_reader_take.f k) (rows_reader_fail.f k) (pack_ReadInt.f k) (pack_ReadText.f k) (rows_reader_value.s0 k) (rows_reader_value.s1 k) (rows_reader_value.s2 k) x0 x1 x2 x3 x4 x5 x6 x7 x8 x9 some
def rows_reader_value.s1 : Nat → ByteArray → Int → Int → ByteArray → Int → Int → Int → Int → ByteArray → Int → Int → Int → ByteArray → Option (Int × Int × Int × ByteArray × ByteArray × Int)
  | 0, _, _, _, _, _, _, _, _, _, _, _, _, _ => none
  | k + 1, x0, x1, x2, x3, x4, x5, x6, x7, x8, x9, x10, x11, x12 => rows_reader_value.s1c (values_Check.f k) (rows_reader_take.f k) (rows_reader_fail.f k) (pack_ReadInt.f k) (pack_ReadText.f k) (rows_reader_value.s0 k) (rows_reader_value.s1 k) (rows_reader_value.s2 k) x0 x1 x2 x3 x4 x5 x6 x7 x8 x9 x10 x11 x12 some
def rows_reader_value.s2 : Nat → Bool → ByteArray → Int → Int → Int → Int → ByteArray → Int → Int → Int → ByteArray → Option (Int × Int × Int × ByteArray × ByteArray × Int)
  | 0, _, _, _, _, _, _, _, _, _, _, _ => none
  | k + 1, x0, x1, x2, x3, x4, x5, x6, x7, x8, x9, x10 => rows_reader_value.s2c (values_Check.f k) (rows_reader_take.f k) (rows_reader_fail.f k) (pack_ReadInt.f k) (pack_ReadText.f k) (rows_reader_value.s0 k) (rows_reader_value.s1 k) (rows_reader_value.s2 k) x0 x1 x2 x3 x4 x5 x6 x7 x8 x9 x10 some
end
def rows_reader_value.f (k : Nat) (a0 : ByteArray) (a1 : Int) : Option (Int × Int × Int × ByteArray × ByteArray × Int) := rows_reader_value.c (values_Check.f k) (rows_reader_take.f k) (rows_reader_fail.f k) (pack_ReadInt.f k) (pack_ReadText.f k) (rows_reader_value.s0 k) (rows_reader_value.s1 k) (rows_reader_value.s2 k) a0 a1 some
theorem rows_reader_value.is (g22 : Int → Int → Int → ByteArray → Option Int) (g47 : Int → ByteArray → Int → Option (ByteArray × ByteArray × Int)) (g48 : Int → ByteArray → Int → Option (ByteArray × Int)) (g49 : ByteArray → Option (Int × ByteArray × Int)) (g50 : ByteArray → Option (ByteArray × ByteArray × Int)) (s0 : ByteArray → Int → Int → Int → Int → ByteArray → Int → Int → Int → ByteArray → Option (Int × Int × Int × ByteArray × ByteArray × Int)) (s1 : ByteArray → Int → Int → ByteArray → Int → Int → Int → Int → ByteArray → Int → Int → Int → ByteArray → Option (Int × Int × Int × ByteArray × ByteArray × Int)) (s2 : Bool → ByteArray → Int → Int → Int → Int → ByteArray → Int → Int → Int → ByteArray → Option (Int × Int × Int × ByteArray × ByteArray × Int)) : FnIs (env_rows_reader_value g22 g47 g48 g49 g50 s0 s1 s2) 28 Go.Proofs.Try.f28 := ⟨Go.Proofs.Try.func28, rfl, rfl, rfl, by decide⟩
theorem rows_reader_value.envok (g22 : Int → Int → Int → ByteArray → Option Int) (g47 : Int → ByteArray → Int → Option (ByteArray × ByteArray × Int)) (g48 : Int → ByteArray → Int → Option (ByteArray × Int)) (g49 : ByteArray → Option (Int × ByteArray × Int)) (g50 : ByteArray → Option (ByteArray × ByteArray × Int)) (s0 : ByteArray → Int → Int → Int → Int → ByteArray → Int → Int → Int → ByteArray → Option (Int × Int × Int × ByteArray × ByteArray × Int)) (s1 : ByteArray → Int → Int → ByteArray → Int → Int → Int → Int → ByteArray → Int → Int → Int → ByteArray → Option (Int × Int × Int × ByteArray × ByteArray × Int)) (s2 : Bool → ByteArray → Int → Int → Int → Int → ByteArray → Int → Int → Int → ByteArray → Option (Int × Int × Int × ByteArray × ByteArray × Int)) (h22 : CtOK Go.Proofs.Try.prog 22 (ct_values_Check g22)) (h47 : CtOK Go.Proofs.Try.prog 47 (ct_rows_reader_take g47)) (h48 : CtOK Go.Proofs.Try.prog 48 (ct_rows_reader_fail g48)) (h49 : CtOK Go.Proofs.Try.prog 49 (ct_pack_ReadInt g49)) (h50 : CtOK Go.Proofs.Try.prog 50 (ct_pack_ReadText g50)) : EnvOK (env_rows_reader_value g22 g47 g48 g49 g50 s0 s1 s2).toEnv := by
  intro f c h
  simp only [env_rows_reader_value] at h
  split at h
  · rename_i e; subst e; cases h; exact h22
  split at h
  · rename_i e; subst e; cases h; exact h47
  split at h
  · rename_i e; subst e; cases h; exact h48
  split at h
  · rename_i e; subst e; cases h; exact h49
  split at h
  · rename_i e; subst e; cases h; exact h50
  simp at h
theorem rows_reader_value.segs_ok : ∀ k, ∀ s ∈ (env_rows_reader_value (values_Check.f k) (rows_reader_take.f k) (rows_reader_fail.f k) (pack_ReadInt.f k) (pack_ReadText.f k) (rows_reader_value.s0 k) (rows_reader_value.s1 k) (rows_reader_value.s2 k)).segs, SegOK (env_rows_reader_value (values_Check.f k) (rows_reader_take.f k) (rows_reader_fail.f k) (pack_ReadInt.f k) (pack_ReadText.f k) (rows_reader_value.s0 k) (rows_reader_value.s1 k) (rows_reader_value.s2 k)) Go.Proofs.Try.f28 s
  | 0 => by
    intro s hs
    simp only [env_rows_reader_value, List.mem_cons, List.not_mem_nil, or_false] at hs
    rcases hs with rfl | rfl | rfl
    · intro tvs blks res h; exfalso; simp only [seg_rows_reader_value_0] at h; split at h <;> simp [rows_reader_value.s0] at h
    · intro tvs blks res h; exfalso; simp only [seg_rows_reader_value_1] at h; split at h <;> simp [rows_reader_value.s1] at h
    · intro tvs blks res h; exfalso; simp only [seg_rows_reader_value_2] at h; split at h <;> simp [rows_reader_value.s2] at h
  | k + 1 => by
    have ih := rows_reader_value.segs_ok k
    intro s hs
    simp only [env_rows_reader_value, List.mem_cons, List.not_mem_nil, or_false] at hs
    rcases hs with rfl | rfl | rfl
    · refine seg_of_ev (E := env_rows_reader_value (values_Check.f k) (rows_reader_take.f k) (rows_reader_fail.f k) (pack_ReadInt.f k) (pack_ReadText.f k) (rows_reader_value.s0 k) (rows_reader_value.s1 k) (rows_reader_value.s2 k)) (rows_reader_value.envok _ _ _ _ _ _ _ _  (values_Check.ok k) (rows_reader_take.ok k) (rows_reader_fail.ok k) (pack_ReadInt.ok k) (pack_ReadText.ok k)) ⟨(rows_reader_value.is (values_Check.f k) (rows_reader_take.f k) (rows_reader_fail.f k) (pack_ReadInt.f k) (pack_ReadText.f k) (rows_reader_value.s0 k) (rows_reader_value.s1 k) (rows_reader_value.s2 k)).rvs⟩ ih ?_
      intro tvs blks res h
      simp only [seg_rows_reader_value_0] at h
      split at h
      · refine (rows_reader_value.s0_ev (values_Check.f k) (rows_reader_take.f k) (rows_reader_fail.f k) (pack_ReadInt.f k) (pack_ReadText.f k) (rows_reader_value.s0 k) (rows_reader_value.s1 k) (rows_reader_value.s2 k) _ _ _ _ _ _ _ _ _ _ ).trans ?_
        rw [rows_reader_value.s0c_bind]
        exact h
      · simp at h
    · refine seg_of_ev (E := env_rows_reader_value (values_Check.f k) (rows_reader_take.f k) (rows_reader_fail.f k) (pack_ReadInt.f k) (pack_ReadText.f k) (rows_reader_value.s0 k) (rows_reader_value.s1 k) (rows_reader_value.s2 k)) (rows_reader_value.envok _ _ _ _ _ _ _ _  (values_Check.ok k) (rows_reader_take.ok k) (rows_reader_fail.ok k) (pack_ReadInt.ok k) (pack_ReadText.ok k)) ⟨(rows_reader_value.is (values_Check.f k) (rows_reader_take.f k) (rows_reader_fail.f k) (pack_ReadInt.f k) (pack_ReadText.f k) (rows_reader_value.s0 k) (rows_reader_value.s1 k) (rows_reader_value.s2 k)).rvs⟩ ih ?_
      intro tvs blks res h
      simp only [seg_rows_reader_value_1] at h
      split at h
      · refine (rows_reader_value.s1_ev (values_Check.f k) (rows_reader_take.f k) (rows_reader_fail.f k) (pack_ReadInt.f k) (pack_ReadText.f k) (rows_reader_value.s0 k) (rows_reader_value.s1 k) (rows_reader_value.s2 k) _ _ _ _ _ _ _ _ _ _ _ _ _ ).trans ?_
        rw [rows_reader_value.s1c_bind]
        exact h
      · simp at h
    · refine seg_of_ev (E := env_rows_reader_value (values_Check.f k) (rows_reader_take.f k) (rows_reader_fail.f k) (pack_ReadInt.f k) (pack_ReadText.f k) (rows_reader_value.s0 k) (rows_reader_value.s1 k) (rows_reader_value.s2 k)) (rows_reader_value.envok _ _ _ _ _ _ _ _  (values_Check.ok k) (rows_reader_take.ok k) (rows_reader_fail.ok k) (pack_ReadInt.ok k) (pack_ReadText.ok k)) ⟨(rows_reader_value.is (values_Check.f k) (rows_reader_take.f k) (rows_reader_fail.f k) (pack_ReadInt.f k) (pack_ReadText.f k) (rows_reader_value.s0 k) (rows_reader_value.s1 k) (rows_reader_value.s2 k)).rvs⟩ ih ?_
      intro tvs blks res h
      simp only [seg_rows_reader_value_2] at h
      split at h
      · refine (rows_reader_value.s2_ev (values_Check.f k) (rows_reader_take.f k) (rows_reader_fail.f k) (pack_ReadInt.f k) (pack_ReadText.f k) (rows_reader_value.s0 k) (rows_reader_value.s1 k) (rows_reader_value.s2 k) _ _ _ _ _ _ _ _ _ _ _ ).trans ?_
        rw [rows_reader_value.s2c_bind]
        exact h
      · simp at h
theorem rows_reader_value.ok (k : Nat) : CtOK Go.Proofs.Try.prog 28 (ct_rows_reader_value (rows_reader_value.f k)) := by
  refine ct_of_ev (E := env_rows_reader_value (values_Check.f k) (rows_reader_take.f k) (rows_reader_fail.f k) (pack_ReadInt.f k) (pack_ReadText.f k) (rows_reader_value.s0 k) (rows_reader_value.s1 k) (rows_reader_value.s2 k)) (rows_reader_value.is _ _ _ _ _ _ _ _ ) (rows_reader_value.envok _ _ _ _ _ _ _ _  (values_Check.ok k) (rows_reader_take.ok k) (rows_reader_fail.ok k) (pack_ReadInt.ok k) (pack_ReadText.ok k)) (rows_reader_value.segs_ok k) rfl ?_
  intro tvs blks res h
  simp only [ct_rows_reader_value] at h
  split at h
  · refine (rows_reader_value.ev (values_Check.f k) (rows_reader_take.f k) (rows_reader_fail.f k) (pack_ReadInt.f k) (pack_ReadText.f k) (rows_reader_value.s0 k) (rows_reader_value.s1 k) (rows_reader_value.s2 k) _ _ ).trans ?_
    rw [rows_reader_value.c_bind]
    exact h
  · simp at h

/-! ### rows_Read: function 12 -/
def ct_rows_Read (g : ByteArray → Option ((List (Int × (Int × (Int × (ByteArray × Unit))))) × Int)) : Ct where
  nin := 0
  mv := []
  F := fun tvs blks {β} K => match tvs, blks with
    | [.v (.one (.d .str a0))], [] => (g a0).bind fun r => K ⟨.tup [(.one (.d (.sl (.pair (.int .i64) (.pair (.int .i64) (.pair (.int .u64) (.pair .str .unit))))) r.1)), (.one (.d (.int .i64) r.2))], []⟩
    | _, _ => none
  legit := fun tvs blks K r h => by
    split at h
    · obtain ⟨x, hx, hk⟩ := Option.bind_eq_some_iff.1 h
      refine ⟨_, ?_, hk⟩
      simp only [hx, Option.bind_some]
    · simp at h
def seg_rows_Read_0 (g : Int → Int → ByteArray → Int → (List (Int × (Int × (Int × (ByteArray × Unit))))) → Option ((List (Int × (Int × (Int × (ByteArray × Unit))))) × Int)) : Seg where
  path := [4, 1, 0, 1, 1, 1, 1, 1]
  prep := [.own 8 (.pair (.int .i64) (.pair (.int .i64) (.pair (.int .u64) (.pair .str .unit))))]
  keep := [7, 8, 26, 27]
  F := fun tvs blks {β} K => match tvs, blks with
    | [.v (.one (.ptr 0 0)), .v (.one (.own 1)), .v (.one (.d (.int .i64) x0)), .v (.one (.d (.int .i64) x1))], [some (.box [(.d .str x2), (.d (.int .i64) x3)]), some (.own (.pair (.int .i64) (.pair (.int .i64) (.pair (.int .u64) (.pair .str .unit)))) false x4)] => (g x0 x1 x2 x3 x4).bind fun r => K ⟨.tup [(.one (.d (.sl (.pair (.int .i64) (.pair (.int .i64) (.pair (.int .u64) (.pair .str .unit))))) r.1)), (.one (.d (.int .i64) r.2))], []⟩
    | _, _ => none
  legit := fun tvs blks K r h => by
    split at h
    · obtain ⟨x, hx, hk⟩ := Option.bind_eq_some_iff.1 h
      refine ⟨_, ?_, hk⟩
      simp only [hx, Option.bind_some]
    · simp at h
noncomputable def env_rows_Read (g27 : ByteArray → Option (Int × ByteArray × Int)) (g28 : ByteArray → Int → Option (Int × Int × Int × ByteArray × ByteArray × Int)) (s0 : Int → Int → ByteArray → Int → (List (Int × (Int × (Int × (ByteArray × Unit))))) → Option ((List (Int × (Int × (Int × (ByteArray × Unit))))) × Int)) : FEnv := { P := Go.Proofs.Try.prog, ct := fun m => if m = 27 then some (ct_pack_ReadUint g27) else if m = 28 then some (ct_rows_reader_value g28) else none, N := 50, body := Go.Proofs.Try.f12.body.getD .skip, rvs := [.tmp 2, .tmp 3], rts := [22, 25], nin := 0, rmv := [], segs := [seg_rows_Read_0 s0] }
def rows_Read.c {β : Type} (g27 : ByteArray → Option (Int × ByteArray × Int)) (g28 : ByteArray → Int → Option (Int × Int × Int × ByteArray × ByteArray × Int)) (s0 : Int → Int → ByteArray → Int → (List (Int × (Int × (Int × (ByteArray × Unit))))) → Option ((List (Int × (Int × (Int × (ByteArray × Unit))))) × Int)) (a0 : ByteArray) (ret : ((List (Int × (Int × (Int × (ByteArray × Unit))))) × Int) → Option β) : Option β := ((g27 a0).bind fun r0 => (bif (r0.2.2 != (0 : Int)) then (ret ([], r0.2.2)) else (bif (decide (r0.1 > (8 : Int))) then (ret ([], (2 : Int))) else ((s0 (IntKind.wrap IntKind.i64 r0.1) (0 : Int) r0.2.1 (0 : Int) []).bind ret))))
def rows_Read.s0c {β : Type} (g27 : ByteArray → Option (Int × ByteArray × Int)) (g28 : ByteArray → Int → Option (Int × Int × Int × ByteArray × ByteArray × Int)) (s0 : Int → Int → ByteArray → Int → (List (Int × (Int × (Int × (ByteArray × Unit))))) → Option ((List (Int × (Int × (Int × (ByteArray × Unit))))) × Int)) (x0 : Int) (x1 : Int) (x2 : ByteArray) (x3 : Int) (x4 : List (Int × (Int × (Int × (ByteArray × Unit))))) (ret : ((List (Int × (Int × (Int × (ByteArray × Unit))))) × Int) → Option β) : Option β := (bif (decide (x1 < x0)) then ((g28 x2 x3).bind fun r0 => (bif (decide ((((List.length x4) + (1 : Nat)) * (40 : Nat)) ≤ (35184372088832 : Nat))) then (bif (r0.2.2.2.2.2 != (0 : Int)) then (ret ([], r0.2.2.2.2.2)) else ((s0 x0 (IntKind.wrap IntKind.i64 (x1 + (1 : Int))) r0.2.2.2.2.1 r0.2.2.2.2.2 (x4 ++ [(r0.1, (r0.2.1, (r0.2.2.1, (r0.2.2.2.1, ()))))])).bind ret)) else none)) else (bif (!((ByteArray.toList x2) == (ByteArray.toList (ByteArray.mk (List.toArray []))))) then (ret ([], (4 : Int))) else (ret (x4, (0 : Int)))))
theorem rows_Read.c_bind {β : Type} (g27 : ByteArray → Option (Int × ByteArray × Int)) (g28 : ByteArray → Int → Option (Int × Int × Int × ByteArray × ByteArray × Int)) (s0 : Int → Int → ByteArray → Int → (List (Int × (Int × (Int × (ByteArray × Unit))))) → Option ((List (Int × (Int × (Int × (ByteArray × Unit))))) × Int)) (a0 : ByteArray) (ret : ((List (Int × (Int × (Int × (ByteArray × Unit))))) × Int) → Option β) : rows_Read.c g27 g28 s0 a0 ret = (rows_Read.c g27 g28 s0 a0 some).bind ret := by
  simp only [rows_Read.c, bif_bind, sum_bind, Option.bind_assoc, Option.bind_some, Option.bind_none, Option.bind_fun_some]
theorem rows_Read.s0c_bind {β : Type} (g27 : ByteArray → Option (Int × ByteArray × Int)) (g28 : ByteArray → Int → Option (Int × Int × Int × ByteArray × ByteArray × Int)) (s0 : Int → Int → ByteArray → Int → (List (Int × (Int × (Int × (ByteArray × Unit))))) → Option ((List (Int × (Int × (Int × (ByteArray × Unit))))) × Int)) (x0 : Int) (x1 : Int) (x2 : ByteArray) (x3 : Int) (x4 : List (Int × (Int × (Int × (ByteArray × Unit))))) (ret : ((List (Int × (Int × (Int × (ByteArray × Unit))))) × Int) → Option β) : rows_Read.s0c g27 g28 s0 x0 x1 x2 x3 x4 ret = (rows_Read.s0c g27 g28 s0 x0 x1 x2 x3 x4 some).bind ret := by
  simp only [rows_Read.s0c, bif_bind, sum_bind, Option.bind_assoc, Option.bind_some, Option.bind_none, Option.bind_fun_some]
theorem rows_Read.ev (g27 : ByteArray → Option (Int × ByteArray × Int)) (g28 : ByteArray → Int → Option (Int × Int × Int × ByteArray × ByteArray × Int)) (s0 : Int → Int → ByteArray → Int → (List (Int × (Int × (Int × (ByteArray × Unit))))) → Option ((List (Int × (Int × (Int × (ByteArray × Unit))))) × Int)) (a0 : ByteArray) : evAt (env_rows_Read g27 g28 s0) [] [0] [.v (.one (.d .str a0))] [] some = rows_Read.c g27 g28 s0 a0 (fun r => some ⟨.tup [(.one (.d (.sl (.pair (.int .i64) (.pair (.int .i64) (.pair (.int .u64) (.pair .str .unit))))) r.1)), (.one (.d (.int .i64) r.2))], []⟩) := by
  kernel_rfl
theorem rows_Read.s0_ev (g27 : ByteArray → Option (Int × ByteArray × Int)) (g28 : ByteArray → Int → Option (Int × Int × Int × ByteArray × ByteArray × Int)) (s0 : Int → Int → ByteArray → Int → (List (Int × (Int × (Int × (ByteArray × Unit))))) → Option ((List (Int × (Int × (Int × (ByteArray × Unit))))) × Int)) (x0 : Int) (x1 : Int) (x2 : ByteArray) (x3 : Int) (x4 : List (Int × (Int × (Int × (ByteArray × Unit))))) : evAt (env_rows_Read g27 g28 s0) [4, 1, 0, 1, 1, 1, 1, 1] [7, 8, 26, 27] [.v (.one (.ptr 0 0)), .v (.one (.own 1)), .v (.one (.d (.int .i64) x0)), .v (.one (.d (.int .i64) x1))] [some (.box [(.d .str x2), (.d (.int .i64) x3)]), some (.own (.pair (.int .i64) (.pair (.int .i64) (.pair (.int .u64) (.pair .str .unit)))) false x4)] some = rows_Read.s0c g27 g28 s0 x0 x1 x2 x3 x4 (fun r => some ⟨.tup [(.one (.d (.sl (.pair (.int .i64) (.pair (.int .i64) (.pair (.int .u64) (.pair .str .unit))))) r.1)), (.one (.d (.int .i64) r.2))], []⟩) := by
  kernel_rfl
def rows_Read.s0 : Nat → Int → Int → ByteArray → Int → (List (Int × (Int × (Int × (ByteArray × Unit))))) → Option ((List (Int × (Int × (Int × (ByteArray × Unit))))) × Int)
  | 0, _, _, _, _, _ => none
  | k + 1, x0, x1, x2, x3, x4 => rows_Read.s0c (pack_ReadUint.f k) (rows_reader_value.f k) (rows_Read.s0 k) x0 x1 x2 x3 x4 some
def rows_Read.f (k : Nat) (a0 : ByteArray) : Option ((List (Int × (Int × (Int × (ByteArray × Unit))))) × Int) := rows_Read.c (pack_ReadUint.f k) (rows_reader_value.f k) (rows_Read.s0 k) a0 some
theorem rows_Read.is (g27 : ByteArray → Option (Int × ByteArray × Int)) (g28 : ByteArray → Int → Option (Int × Int × Int × ByteArray × ByteArray × Int)) (s0 : Int → Int → ByteArray → Int → (List (Int × (Int × (Int × (ByteArray × Unit))))) → Option ((List (Int × (Int × (Int × (ByteArray × Unit))))) × Int)) : FnIs (env_rows_Read g27 g28 s0) 12 Go.Proofs.Try.f12 := ⟨Go.Proofs.Try.func12, rfl, rfl, rfl, by decide⟩
theorem rows_Read.envok (g27 : ByteArray → Option (Int × ByteArray × Int)) (g28 : ByteArray → Int → Option (Int × Int × Int × ByteArray × ByteArray × Int)) (s0 : Int → Int → ByteArray → Int → (List (Int × (Int × (Int × (ByteArray × Unit))))) → Option ((List (Int × (Int × (Int × (ByteArray × Unit))))) × Int)) (h27 : CtOK Go.Proofs.Try.prog 27 (ct_pack_ReadUint g27)) (h28 : CtOK Go.Proofs.Try.prog 28 (ct_rows_reader_value g28)) : EnvOK (env_rows_Read g27 g28 s0).toEnv := by
  intro f c h
  simp only [env_rows_Read] at h
  split at h
  · rename_i e; subst e; cases h; exact h27
  split at h
  · rename_i e; subst e; cases h; exact h28
  simp at h
theorem rows_Read.segs_ok : ∀ k, ∀ s ∈ (env_rows_Read (pack_ReadUint.f k) (rows_reader_value.f k) (rows_Read.s0 k)).segs, SegOK (env_rows_Read (pack_ReadUint.f k) (rows_reader_value.f k) (rows_Read.s0 k)) Go.Proofs.Try.f12 s
  | 0 => by
    intro s hs
    simp only [env_rows_Read, List.mem_cons, List.not_mem_nil, or_false] at hs
    rcases hs with rfl
    · intro tvs blks res h; exfalso; simp only [seg_rows_Read_0] at h; split at h <;> simp [rows_Read.s0] at h
  | k + 1 => by
    have ih := rows_Read.segs_ok k
    intro s hs
    simp only [env_rows_Read, List.mem_cons, List.not_mem_nil, or_false] at hs
    rcases hs with rfl
    · refine seg_of_ev (E := env_rows_Read (pack_ReadUint.f k) (rows_reader_value.f k) (rows_Read.s0 k)) (rows_Read.envok _ _ _  (pack_ReadUint.ok k) (rows_reader_value.ok k)) ⟨(rows_Read.is (pack_ReadUint.f k) (rows_reader_value.f k) (rows_Read.s0 k)).rvs⟩ ih ?_
      intro tvs blks res h
      simp only [seg_rows_Read_0] at h
      split at h
      · refine (rows_Read.s0_ev (pack_ReadUint.f k) (rows_reader_value.f k) (rows_Read.s0 k) _ _ _ _ _ ).trans ?_
        rw [rows_Read.s0c_bind]
        exact h
      · simp at h
theorem rows_Read.ok (k : Nat) : CtOK Go.Proofs.Try.prog 12 (ct_rows_Read (rows_Read.f k)) := by
  refine ct_of_ev (E := env_rows_Read (pack_ReadUint.f k) (rows_reader_value.f k) (rows_Read.s0 k)) (rows_Read.is _ _ _ ) (rows_Read.envok _ _ _  (pack_ReadUint.ok k) (rows_reader_value.ok k)) (rows_Read.segs_ok k) rfl ?_
  intro tvs blks res h
  simp only [ct_rows_Read] at h
  split at h
  · refine (rows_Read.ev (pack_ReadUint.f k) (rows_reader_value.f k) (rows_Read.s0 k) _ ).trans ?_
    rw [rows_Read.c_bind]
    exact h
  · simp at h
end Go.Proofs.Ytlclhjdfbkenfaa.Aev
