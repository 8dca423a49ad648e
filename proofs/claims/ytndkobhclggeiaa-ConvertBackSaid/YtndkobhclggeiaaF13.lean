/- By a program of this session (AEV): functions of the program as plain functions, and that the machine does what they say. -/
import Derived.Test.YtndkobhclggeiaaAevW
import Derived.Test.YtndkobhclggeiaaProg
import Derived.Laws.Externs
import Derived.Lib.Bytealg
import Derived.Test.YtndkobhclggeiaaF6
import Derived.Test.YtndkobhclggeiaaF8
import Derived.Test.YtndkobhclggeiaaF9
import Derived.Test.YtndkobhclggeiaaF10
import Derived.Test.YtndkobhclggeiaaF12
namespace Go.Proofs.Ytndkobhclggeiaa.Aev
set_option linter.unusedVariables false
set_option linter.unusedSimpArgs false
set_option maxRecDepth 100000
set_option maxHeartbeats 4000000
open Go
/-! ### transomref07_To: function 10 -/
def ct_transomref07_To (g : Int → Int → Int → ByteArray → Int → Option (Int × Int × Int × ByteArray × Int)) : Ct where
  nin := 0
  mv := []
  F := fun tvs blks {β} K => match tvs, blks with
    | [.v (.agg [(.d (.int .i64) a0), (.d (.int .i64) a1), (.d (.int .u64) a2), (.d .str a3)]), .v (.one (.d (.int .i64) a4))], [] => (g a0 a1 a2 a3 a4).bind fun r => K ⟨.tup [(.agg [(.d (.int .i64) r.1), (.d (.int .i64) r.2.1), (.d (.int .u64) r.2.2.1), (.d .str r.2.2.2.1)]), (.one (.d (.int .i64) r.2.2.2.2))], []⟩
    | _, _ => none
  legit := fun tvs blks K r h => by
    split at h
    · obtain ⟨x, hx, hk⟩ := Option.bind_eq_some_iff.1 h
      refine ⟨_, ?_, hk⟩
      simp only [hx, Option.bind_some]
    · simp at h
def seg_transomref07_To_0 (g : Int → Bool → Int → Int → Int → ByteArray → Int → Int → Int → ByteArray → Option (Int × Int × Int × ByteArray × Int)) : Seg where
  path := [1, 0, 1, 1]
  prep := []
  keep := [1, 2, 4, 18]
  F := fun tvs blks {β} K => match tvs, blks with
    | [.v (.one (.d (.int .i64) x0)), .v (.one (.ptr 0 0)), .v (.one (.ptr 1 0)), .v (.one (.d .bool x1))], [some (.box [(.d (.int .i64) x2), (.d (.int .i64) x3), (.d (.int .u64) x4), (.d .str x5)]), some (.box [(.d (.int .i64) x6), (.d (.int .i64) x7), (.d (.int .u64) x8), (.d .str x9)])] => (g x0 x1 x2 x3 x4 x5 x6 x7 x8 x9).bind fun r => K ⟨.tup [(.agg [(.d (.int .i64) r.1), (.d (.int .i64) r.2.1), (.d (.int .u64) r.2.2.1), (.d .str r.2.2.2.1)]), (.one (.d (.int .i64) r.2.2.2.2))], []⟩
    | _, _ => none
  legit := fun tvs blks K r h => by
    split at h
    · obtain ⟨x, hx, hk⟩ := Option.bind_eq_some_iff.1 h
      refine ⟨_, ?_, hk⟩
      simp only [hx, Option.bind_some]
    · simp at h
def seg_transomref07_To_1 (g : Int → Int → Int → Int → ByteArray → Int → Int → Int → ByteArray → Option (Int × Int × Int × ByteArray × Int)) : Seg where
  path := [1, 1, 1]
  prep := []
  keep := [1, 2, 4]
  F := fun tvs blks {β} K => match tvs, blks with
    | [.v (.one (.d (.int .i64) x0)), .v (.one (.ptr 0 0)), .v (.one (.ptr 1 0))], [some (.box [(.d (.int .i64) x1), (.d (.int .i64) x2), (.d (.int .u64) x3), (.d .str x4)]), some (.box [(.d (.int .i64) x5), (.d (.int .i64) x6), (.d (.int .u64) x7), (.d .str x8)])] => (g x0 x1 x2 x3 x4 x5 x6 x7 x8).bind fun r => K ⟨.tup [(.agg [(.d (.int .i64) r.1), (.d (.int .i64) r.2.1), (.d (.int .u64) r.2.2.1), (.d .str r.2.2.2.1)]), (.one (.d (.int .i64) r.2.2.2.2))], []⟩
    | _, _ => none
  legit := fun tvs blks K r h => by
    split at h
    · obtain ⟨x, hx, hk⟩ := Option.bind_eq_some_iff.1 h
      refine ⟨_, ?_, hk⟩
      simp only [hx, Option.bind_some]
    · simp at h
def seg_transomref07_To_2 (g : Int → Bool → Int → Int → Int → ByteArray → Int → Int → Int → ByteArray → Option (Int × Int × Int × ByteArray × Int)) : Seg where
  path := [1, 0, 1, 1, 1]
  prep := []
  keep := [1, 2, 4, 28]
  F := fun tvs blks {β} K => match tvs, blks with
    | [.v (.one (.d (.int .i64) x0)), .v (.one (.ptr 0 0)), .v (.one (.ptr 1 0)), .v (.one (.d .bool x1))], [some (.box [(.d (.int .i64) x2), (.d (.int .i64) x3), (.d (.int .u64) x4), (.d .str x5)]), some (.box [(.d (.int .i64) x6), (.d (.int .i64) x7), (.d (.int .u64) x8), (.d .str x9)])] => (g x0 x1 x2 x3 x4 x5 x6 x7 x8 x9).bind fun r => K ⟨.tup [(.agg [(.d (.int .i64) r.1), (.d (.int .i64) r.2.1), (.d (.int .u64) r.2.2.1), (.d .str r.2.2.2.1)]), (.one (.d (.int .i64) r.2.2.2.2))], []⟩
    | _, _ => none
  legit := fun tvs blks K r h => by
    split at h
    · obtain ⟨x, hx, hk⟩ := Option.bind_eq_some_iff.1 h
      refine ⟨_, ?_, hk⟩
      simp only [hx, Option.bind_some]
    · simp at h
def seg_transomref07_To_3 (g : Int → Int → Int → Int → ByteArray → Int → Int → Int → ByteArray → Option (Int × Int × Int × ByteArray × Int)) : Seg where
  path := [1, 1, 1, 1]
  prep := []
  keep := [1, 2, 4]
  F := fun tvs blks {β} K => match tvs, blks with
    | [.v (.one (.d (.int .i64) x0)), .v (.one (.ptr 0 0)), .v (.one (.ptr 1 0))], [some (.box [(.d (.int .i64) x1), (.d (.int .i64) x2), (.d (.int .u64) x3), (.d .str x4)]), some (.box [(.d (.int .i64) x5), (.d (.int .i64) x6), (.d (.int .u64) x7), (.d .str x8)])] => (g x0 x1 x2 x3 x4 x5 x6 x7 x8).bind fun r => K ⟨.tup [(.agg [(.d (.int .i64) r.1), (.d (.int .i64) r.2.1), (.d (.int .u64) r.2.2.1), (.d .str r.2.2.2.1)]), (.one (.d (.int .i64) r.2.2.2.2))], []⟩
    | _, _ => none
  legit := fun tvs blks K r h => by
    split at h
    · obtain ⟨x, hx, hk⟩ := Option.bind_eq_some_iff.1 h
      refine ⟨_, ?_, hk⟩
      simp only [hx, Option.bind_some]
    · simp at h
noncomputable def env_transomref07_To (g13 : Int → Int → Option Bool) (g28 : Int → Int → Int → ByteArray → Option Int) (g29 : Int → Int → Option (Int × Int × Int × ByteArray × Int)) (g30 : Int → Int → Option (Int × Int × Int × ByteArray × Int)) (g31 : Int → Int → Option (Int × Int × Int × ByteArray × Int)) (g32 : ByteArray → Int → Option (Int × Int × Int × ByteArray × Int)) (g33 : ByteArray → Int → Option (Int × Int × Int × ByteArray × Int)) (s0 : Int → Bool → Int → Int → Int → ByteArray → Int → Int → Int → ByteArray → Option (Int × Int × Int × ByteArray × Int)) (s1 : Int → Int → Int → Int → ByteArray → Int → Int → Int → ByteArray → Option (Int × Int × Int × ByteArray × Int)) (s2 : Int → Bool → Int → Int → Int → ByteArray → Int → Int → Int → ByteArray → Option (Int × Int × Int × ByteArray × Int)) (s3 : Int → Int → Int → Int → ByteArray → Int → Int → Int → ByteArray → Option (Int × Int × Int × ByteArray × Int)) : FEnv := { P := Go.Proofs.Try.prog, ct := fun m => if m = 13 then some (ct_transomref07_Can g13) else if m = 28 then some (ct_transomref04_Check g28) else if m = 29 then some (ct_transomref07_fromBool g29) else if m = 30 then some (ct_transomref07_fromInt g30) else if m = 31 then some (ct_transomref07_fromReal g31) else if m = 32 then some (ct_transomref07_fromBytes g32) else if m = 33 then some (ct_transomref07_fromText g33) else none, N := 76, body := Go.Proofs.Try.f10.body.getD .skip, rvs := [.cell 4 24, .tmp 5], rts := [24, 3], nin := 0, rmv := [], segs := [seg_transomref07_To_0 s0, seg_transomref07_To_1 s1, seg_transomref07_To_2 s2, seg_transomref07_To_3 s3] }
def transomref07_To.c {β : Type} (g13 : Int → Int → Option Bool) (g28 : Int → Int → Int → ByteArray → Option Int) (g29 : Int → Int → Option (Int × Int × Int × ByteArray × Int)) (g30 : Int → Int → Option (Int × Int × Int × ByteArray × Int)) (g31 : Int → Int → Option (Int × Int × Int × ByteArray × Int)) (g32 : ByteArray → Int → Option (Int × Int × Int × ByteArray × Int)) (g33 : ByteArray → Int → Option (Int × Int × Int × ByteArray × Int)) (s0 : Int → Bool → Int → Int → Int → ByteArray → Int → Int → Int → ByteArray → Option (Int × Int × Int × ByteArray × Int)) (s1 : Int → Int → Int → Int → ByteArray → Int → Int → Int → ByteArray → Option (Int × Int × Int × ByteArray × Int)) (s2 : Int → Bool → Int → Int → Int → ByteArray → Int → Int → Int → ByteArray → Option (Int × Int × Int × ByteArray × Int)) (s3 : Int → Int → Int → Int → ByteArray → Int → Int → Int → ByteArray → Option (Int × Int × Int × ByteArray × Int)) (a0 : Int) (a1 : Int) (a2 : Int) (a3 : ByteArray) (a4 : Int) (ret : (Int × Int × Int × ByteArray × Int) → Option β) : Option β := ((g28 a0 a1 a2 a3).bind fun r0 => (bif (r0 != (0 : Int)) then (ret ((0 : Int), (0 : Int), (0 : Int), (ByteArray.mk (List.toArray [])), r0)) else (bif (decide (a4 < (1 : Int))) then ((s0 a4 true a0 a1 a2 a3 (0 : Int) (0 : Int) (0 : Int) (ByteArray.mk (List.toArray []))).bind ret) else ((s0 a4 (decide (a4 > (5 : Int))) a0 a1 a2 a3 (0 : Int) (0 : Int) (0 : Int) (ByteArray.mk (List.toArray []))).bind ret))))
def transomref07_To.s0c {β : Type} (g13 : Int → Int → Option Bool) (g28 : Int → Int → Int → ByteArray → Option Int) (g29 : Int → Int → Option (Int × Int × Int × ByteArray × Int)) (g30 : Int → Int → Option (Int × Int × Int × ByteArray × Int)) (g31 : Int → Int → Option (Int × Int × Int × ByteArray × Int)) (g32 : ByteArray → Int → Option (Int × Int × Int × ByteArray × Int)) (g33 : ByteArray → Int → Option (Int × Int × Int × ByteArray × Int)) (s0 : Int → Bool → Int → Int → Int → ByteArray → Int → Int → Int → ByteArray → Option (Int × Int × Int × ByteArray × Int)) (s1 : Int → Int → Int → Int → ByteArray → Int → Int → Int → ByteArray → Option (Int × Int × Int × ByteArray × Int)) (s2 : Int → Bool → Int → Int → Int → ByteArray → Int → Int → Int → ByteArray → Option (Int × Int × Int × ByteArray × Int)) (s3 : Int → Int → Int → Int → ByteArray → Int → Int → Int → ByteArray → Option (Int × Int × Int × ByteArray × Int)) (x0 : Int) (x1 : Bool) (x2 : Int) (x3 : Int) (x4 : Int) (x5 : ByteArray) (x6 : Int) (x7 : Int) (x8 : Int) (x9 : ByteArray) (ret : (Int × Int × Int × ByteArray × Int) → Option β) : Option β := (bif x1 then (ret ((0 : Int), (0 : Int), (0 : Int), (ByteArray.mk (List.toArray [])), (5 : Int))) else ((s1 x0 x2 x3 x4 x5 x6 x7 x8 x9).bind ret))
def transomref07_To.s1c {β : Type} (g13 : Int → Int → Option Bool) (g28 : Int → Int → Int → ByteArray → Option Int) (g29 : Int → Int → Option (Int × Int × Int × ByteArray × Int)) (g30 : Int → Int → Option (Int × Int × Int × ByteArray × Int)) (g31 : Int → Int → Option (Int × Int × Int × ByteArray × Int)) (g32 : ByteArray → Int → Option (Int × Int × Int × ByteArray × Int)) (g33 : ByteArray → Int → Option (Int × Int × Int × ByteArray × Int)) (s0 : Int → Bool → Int → Int → Int → ByteArray → Int → Int → Int → ByteArray → Option (Int × Int × Int × ByteArray × Int)) (s1 : Int → Int → Int → Int → ByteArray → Int → Int → Int → ByteArray → Option (Int × Int × Int × ByteArray × Int)) (s2 : Int → Bool → Int → Int → Int → ByteArray → Int → Int → Int → ByteArray → Option (Int × Int × Int × ByteArray × Int)) (s3 : Int → Int → Int → Int → ByteArray → Int → Int → Int → ByteArray → Option (Int × Int × Int × ByteArray × Int)) (x0 : Int) (x1 : Int) (x2 : Int) (x3 : Int) (x4 : ByteArray) (x5 : Int) (x6 : Int) (x7 : Int) (x8 : ByteArray) (ret : (Int × Int × Int × ByteArray × Int) → Option β) : Option β := (bif (x1 == (0 : Int)) then ((s2 x0 true x1 x2 x3 x4 x5 x6 x7 x8).bind ret) else ((s2 x0 (x1 == x0) x1 x2 x3 x4 x5 x6 x7 x8).bind ret))
def transomref07_To.s2c {β : Type} (g13 : Int → Int → Option Bool) (g28 : Int → Int → Int → ByteArray → Option Int) (g29 : Int → Int → Option (Int × Int × Int × ByteArray × Int)) (g30 : Int → Int → Option (Int × Int × Int × ByteArray × Int)) (g31 : Int → Int → Option (Int × Int × Int × ByteArray × Int)) (g32 : ByteArray → Int → Option (Int × Int × Int × ByteArray × Int)) (g33 : ByteArray → Int → Option (Int × Int × Int × ByteArray × Int)) (s0 : Int → Bool → Int → Int → Int → ByteArray → Int → Int → Int → ByteArray → Option (Int × Int × Int × ByteArray × Int)) (s1 : Int → Int → Int → Int → ByteArray → Int → Int → Int → ByteArray → Option (Int × Int × Int × ByteArray × Int)) (s2 : Int → Bool → Int → Int → Int → ByteArray → Int → Int → Int → ByteArray → Option (Int × Int × Int × ByteArray × Int)) (s3 : Int → Int → Int → Int → ByteArray → Int → Int → Int → ByteArray → Option (Int × Int × Int × ByteArray × Int)) (x0 : Int) (x1 : Bool) (x2 : Int) (x3 : Int) (x4 : Int) (x5 : ByteArray) (x6 : Int) (x7 : Int) (x8 : Int) (x9 : ByteArray) (ret : (Int × Int × Int × ByteArray × Int) → Option β) : Option β := (bif x1 then (ret (x2, x3, x4, x5, (0 : Int))) else ((s3 x0 x2 x3 x4 x5 x6 x7 x8 x9).bind ret))
def transomref07_To.s3c {β : Type} (g13 : Int → Int → Option Bool) (g28 : Int → Int → Int → ByteArray → Option Int) (g29 : Int → Int → Option (Int × Int × Int × ByteArray × Int)) (g30 : Int → Int → Option (Int × Int × Int × ByteArray × Int)) (g31 : Int → Int → Option (Int × Int × Int × ByteArray × Int)) (g32 : ByteArray → Int → Option (Int × Int × Int × ByteArray × Int)) (g33 : ByteArray → Int → Option (Int × Int × Int × ByteArray × Int)) (s0 : Int → Bool → Int → Int → Int → ByteArray → Int → Int → Int → ByteArray → Option (Int × Int × Int × ByteArray × Int)) (s1 : Int → Int → Int → Int → ByteArray → Int → Int → Int → ByteArray → Option (Int × Int × Int × ByteArray × Int)) (s2 : Int → Bool → Int → Int → Int → ByteArray → Int → Int → Int → ByteArray → Option (Int × Int × Int × ByteArray × Int)) (s3 : Int → Int → Int → Int → ByteArray → Int → Int → Int → ByteArray → Option (Int × Int × Int × ByteArray × Int)) (x0 : Int) (x1 : Int) (x2 : Int) (x3 : Int) (x4 : ByteArray) (x5 : Int) (x6 : Int) (x7 : Int) (x8 : ByteArray) (ret : (Int × Int × Int × ByteArray × Int) → Option β) : Option β := ((g13 x1 x0).bind fun r0 => (bif (!r0) then (ret ((0 : Int), (0 : Int), (0 : Int), (ByteArray.mk (List.toArray [])), (5 : Int))) else (bif (x1 == (1 : Int)) then ((g29 x2 x0).bind fun r1 => (ret (r1.1, r1.2.1, r1.2.2.1, r1.2.2.2.1, r1.2.2.2.2))) else (bif (x1 == (2 : Int)) then ((g30 x2 x0).bind fun r2 => (ret (r2.1, r2.2.1, r2.2.2.1, r2.2.2.2.1, r2.2.2.2.2))) else (bif (x1 == (3 : Int)) then ((g31 x3 x0).bind fun r3 => (ret (r3.1, r3.2.1, r3.2.2.1, r3.2.2.2.1, r3.2.2.2.2))) else (bif (x1 == (4 : Int)) then ((g32 x4 x0).bind fun r4 => (ret (r4.1, r4.2.1, r4.2.2.1, r4.2.2.2.1, r4.2.2.2.2))) else ((g33 x4 x0).bind fun r5 => (ret (r5.1, r5.2.1, r5.2.2.1, r5.2.2.2.1, r5.2.2.2.2)))))))))
theorem transomref07_To.c_bind {β : Type} (g13 : Int → Int → Option Bool) (g28 : Int → Int → Int → ByteArray → Option Int) (g29 : Int → Int → Option (Int × Int × Int × ByteArray × Int)) (g30 : Int → Int → Option (Int × Int × Int × ByteArray × Int)) (g31 : Int → Int → Option (Int × Int × Int × ByteArray × Int)) (g32 : ByteArray → Int → Option (Int × Int × Int × ByteArray × Int)) (g33 : ByteArray → Int → Option (Int × Int × Int × ByteArray × Int)) (s0 : Int → Bool → Int → Int → Int → ByteArray → Int → Int → Int → ByteArray → Option (Int × Int × Int × ByteArray × Int)) (s1 : Int → Int → Int → Int → ByteArray → Int → Int → Int → ByteArray → Option (Int × Int × Int × ByteArray × Int)) (s2 : Int → Bool → Int → Int → Int → ByteArray → Int → Int → Int → ByteArray → Option (Int × Int × Int × ByteArray × Int)) (s3 : Int → Int → Int → Int → ByteArray → Int → Int → Int → ByteArray → Option (Int × Int × Int × ByteArray × Int)) (a0 : Int) (a1 : Int) (a2 : Int) (a3 : ByteArray) (a4 : Int) (ret : (Int × Int × Int × ByteArray × Int) → Option β) : transomref07_To.c g13 g28 g29 g30 g31 g32 g33 s0 s1 s2 s3 a0 a1 a2 a3 a4 ret = (transomref07_To.c g13 g28 g29 g30 g31 g32 g33 s0 s1 s2 s3 a0 a1 a2 a3 a4 some).bind ret := by
  simp only [transomref07_To.c, bif_bind, sum_bind, Option.bind_assoc, Option.bind_some, Option.bind_none, Option.bind_fun_some]
theorem transomref07_To.s0c_bind {β : Type} (g13 : Int → Int → Option Bool) (g28 : Int → Int → Int → ByteArray → Option Int) (g29 : Int → Int → Option (Int × Int × Int × ByteArray × Int)) (g30 : Int → Int → Option (Int × Int × Int × ByteArray × Int)) (g31 : Int → Int → Option (Int × Int × Int × ByteArray × Int)) (g32 : ByteArray → Int → Option (Int × Int × Int × ByteArray × Int)) (g33 : ByteArray → Int → Option (Int × Int × Int × ByteArray × Int)) (s0 : Int → Bool → Int → Int → Int → ByteArray → Int → Int → Int → ByteArray → Option (Int × Int × Int × ByteArray × Int)) (s1 : Int → Int → Int → Int → ByteArray → Int → Int → Int → ByteArray → Option (Int × Int × Int × ByteArray × Int)) (s2 : Int → Bool → Int → Int → Int → ByteArray → Int → Int → Int → ByteArray → Option (Int × Int × Int × ByteArray × Int)) (s3 : Int → Int → Int → Int → ByteArray → Int → Int → Int → ByteArray → Option (Int × Int × Int × ByteArray × Int)) (x0 : Int) (x1 : Bool) (x2 : Int) (x3 : Int) (x4 : Int) (x5 : ByteArray) (x6 : Int) (x7 : Int) (x8 : Int) (x9 : ByteArray) (ret : (Int × Int × Int × ByteArray × Int) → Option β) : transomref07_To.s0c g13 g28 g29 g30 g31 g32 g33 s0 s1 s2 s3 x0 x1 x2 x3 x4 x5 x6 x7 x8 x9 ret = (transomref07_To.s0c g13 g28 g29 g30 g31 g32 g33 s0 s1 s2 s3 x0 x1 x2 x3 x4 x5 x6 x7 x8 x9 some).bind ret := by
  simp only [transomref07_To.s0c, bif_bind, sum_bind, Option.bind_assoc, Option.bind_some, Option.bind_none, Option.bind_fun_some]
theorem transomref07_To.s1c_bind {β : Type} (g13 : Int → Int → Option Bool) (g28 : Int → Int → Int → ByteArray → Option Int) (g29 : Int → Int → Option (Int × Int × Int × ByteArray × Int)) (g30 : Int → Int → Option (Int × Int × Int × ByteArray × Int)) (g31 : Int → Int → Option (Int × Int × Int × ByteArray × Int)) (g32 : ByteArray → Int → Option (Int × Int × Int × ByteArray × Int)) (g33 : ByteArray → Int → Option (Int × Int × Int × ByteArray × Int)) (s0 : Int → Bool → Int → Int → Int → ByteArray → Int → Int → Int → ByteArray → Option (Int × Int × Int × ByteArray × Int)) (s1 : Int → Int → Int → Int → ByteArray → Int → Int → Int → ByteArray → Option (Int × Int × Int × ByteArray × Int)) (s2 : Int → Bool → Int → Int → Int → ByteArray → Int → Int → Int → ByteArray → Option (Int × Int × Int × ByteArray × Int)) (s3 : Int → Int → Int → Int → ByteArray → Int → Int → Int → ByteArray → Option (Int × Int × Int × ByteArray × Int)) (x0 : Int) (x1 : Int) (x2 : Int) (x3 : Int) (x4 : ByteArray) (x5 : Int) (x6 : Int) (x7 : Int) (x8 : ByteArray) (ret : (Int × Int × Int × ByteArray × Int) → Option β) : transomref07_To.s1c g13 g28 g29 g30 g31 g32 g33 s0 s1 s2 s3 x0 x1 x2 x3 x4 x5 x6 x7 x8 ret = (transomref07_To.s1c g13 g28 g29 g30 g31 g32 g33 s0 s1 s2 s3 x0 x1 x2 x3 x4 x5 x6 x7 x8 some).bind ret := by
  simp only [transomref07_To.s1c, bif_bind, sum_bind, Option.bind_assoc, Option.bind_some, Option.bind_none, Option.bind_fun_some]
theorem transomref07_To.s2c_bind {β : Type} (g13 : Int → Int → Option Bool) (g28 : Int → Int → Int → ByteArray → Option Int) (g29 : Int → Int → Option (Int × Int × Int × ByteArray × Int)) (g30 : Int → Int → Option (Int × Int × Int × ByteArray × Int)) (g31 : Int → Int → Option (Int × Int × Int × ByteArray × Int)) (g32 : ByteArray → Int → Option (Int × Int × Int × ByteArray × Int)) (g33 : ByteArray → Int → Option (Int × Int × Int × ByteArray × Int)) (s0 : Int → Bool → Int → Int → Int → ByteArray → Int → Int → Int → ByteArray → Option (Int × Int × Int × ByteArray × Int)) (s1 : Int → Int → Int → Int → ByteArray → Int → Int → Int → ByteArray → Option (Int × Int × Int × ByteArray × Int)) (s2 : Int → Bool → Int → Int → Int → ByteArray → Int → Int → Int → ByteArray → Option (Int × Int × Int × ByteArray × Int)) (s3 : Int → Int → Int → Int → ByteArray → Int → Int → Int → ByteArray → Option (Int × Int × Int × ByteArray × Int)) (x0 : Int) (x1 : Bool) (x2 : Int) (x3 : Int) (x4 : Int) (x5 : ByteArray) (x6 : Int) (x7 : Int) (x8 : Int) (x9 : ByteArray) (ret : (Int × Int × Int × ByteArray × Int) → Option β) : transomref07_To.s2c g13 g28 g29 g30 g31 g32 g33 s0 s1 s2 s3 x0 x1 x2 x3 x4 x5 x6 x7 x8 x9 ret = (transomref07_To.s2c g13 g28 g29 g30 g31 g32 g33 s0 s1 s2 s3 x0 x1 x2 x3 x4 x5 x6 x7 x8 x9 some).bind ret := by
  simp only [transomref07_To.s2c, bif_bind, sum_bind, Option.bind_assoc, Option.bind_some, Option.bind_none, Option.bind_fun_some]
theorem transomref07_To.s3c_bind {β : Type} (g13 : Int → Int → Option Bool) (g28 : Int → Int → Int → ByteArray → Option Int) (g29 : Int → Int → Option (Int × Int × Int × ByteArray × Int)) (g30 : Int → Int → Option (Int × Int × Int × ByteArray × Int)) (g31 : Int → Int → Option (Int × Int × Int × ByteArray × Int)) (g32 : ByteArray → Int → Option (Int × Int × Int × ByteArray × Int)) (g33 : ByteArray → Int → Option (Int × Int × Int × ByteArray × Int)) (s0 : Int → Bool → Int → Int → Int → ByteArray → Int → Int → Int → ByteArray → Option (Int × Int × Int × ByteArray × Int)) (s1 : Int → Int → Int → Int → ByteArray → Int → Int → Int → ByteArray → Option (Int × Int × Int × ByteArray × Int)) (s2 : Int → Bool → Int → Int → Int → ByteArray → Int → Int → Int → ByteArray → Option (Int × Int × Int × ByteArray × Int)) (s3 : Int → Int → Int → Int → ByteArray → Int → Int → Int → ByteArray → Option (Int × Int × Int × ByteArray × Int)) (x0 : Int) (x1 : Int) (x2 : Int) (x3 : Int) (x4 : ByteArray) (x5 : Int) (x6 : Int) (x7 : Int) (x8 : ByteArray) (ret : (Int × Int × Int × ByteArray × Int) → Option β) : transomref07_To.s3c g13 g28 g29 g30 g31 g32 g33 s0 s1 s2 s3 x0 x1 x2 x3 x4 x5 x6 x7 x8 ret = (transomref07_To.s3c g13 g28 g29 g30 g31 g32 g33 s0 s1 s2 s3 x0 x1 x2 x3 x4 x5 x6 x7 x8 some).bind ret := by
  simp only [transomref07_To.s3c, bif_bind, sum_bind, Option.bind_assoc, Option.bind_some, Option.bind_none, Option.bind_fun_some]
theorem transomref07_To.ev (g13 : Int → Int → Option Bool) (g28 : Int → Int → Int → ByteArray → Option Int) (g29 : Int → Int → Option (Int × Int × Int × ByteArray × Int)) (g30 : Int → Int → Option (Int × Int × Int × ByteArray × Int)) (g31 : Int → Int → Option (Int × Int × Int × ByteArray × Int)) (g32 : ByteArray → Int → Option (Int × Int × Int × ByteArray × Int)) (g33 : ByteArray → Int → Option (Int × Int × Int × ByteArray × Int)) (s0 : Int → Bool → Int → Int → Int → ByteArray → Int → Int → Int → ByteArray → Option (Int × Int × Int × ByteArray × Int)) (s1 : Int → Int → Int → Int → ByteArray → Int → Int → Int → ByteArray → Option (Int × Int × Int × ByteArray × Int)) (s2 : Int → Bool → Int → Int → Int → ByteArray → Int → Int → Int → ByteArray → Option (Int × Int × Int × ByteArray × Int)) (s3 : Int → Int → Int → Int → ByteArray → Int → Int → Int → ByteArray → Option (Int × Int × Int × ByteArray × Int)) (a0 : Int) (a1 : Int) (a2 : Int) (a3 : ByteArray) (a4 : Int) : evAt (env_transomref07_To g13 g28 g29 g30 g31 g32 g33 s0 s1 s2 s3) [] [0, 1] [.v (.agg [(.d (.int .i64) a0), (.d (.int .i64) a1), (.d (.int .u64) a2), (.d .str a3)]), .v (.one (.d (.int .i64) a4))] [] some = transomref07_To.c g13 g28 g29 g30 g31 g32 g33 s0 s1 s2 s3 a0 a1 a2 a3 a4 (fun r => some ⟨.tup [(.agg [(.d (.int .i64) r.1), (.d (.int .i64) r.2.1), (.d (.int .u64) r.2.2.1), (.d .str r.2.2.2.1)]), (.one (.d (.int .i64) r.2.2.2.2))], []⟩) := by
  kernel_rfl
theorem transomref07_To.s0_ev (g13 : Int → Int → Option Bool) (g28 : Int → Int → Int → ByteArray → Option Int) (g29 : Int → Int → Option (Int × Int × Int × ByteArray × Int)) (g30 : Int → Int → Option (Int × Int × Int × ByteArray × Int)) (g31 : Int → Int → Option (Int × Int × Int × ByteArray × Int)) (g32 : ByteArray → Int → Option (Int × Int × Int × ByteArray × Int)) (g33 : ByteArray → Int → Option (Int × Int × Int × ByteArray × Int)) (s0 : Int → Bool → Int → Int → Int → ByteArray → Int → Int → Int → ByteArray → Option (Int × Int × Int × ByteArray × Int)) (s1 : Int → Int → Int → Int → ByteArray → Int → Int → Int → ByteArray → Option (Int × Int × Int × ByteArray × Int)) (s2 : Int → Bool → Int → Int → Int → ByteArray → Int → Int → Int → ByteArray → Option (Int × Int × Int × ByteArray × Int)) (s3 : Int → Int → Int → Int → ByteArray → Int → Int → Int → ByteArray → Option (Int × Int × Int × ByteArray × Int)) (x0 : Int) (x1 : Bool) (x2 : Int) (x3 : Int) (x4 : Int) (x5 : ByteArray) (x6 : Int) (x7 : Int) (x8 : Int) (x9 : ByteArray) : evAt (env_transomref07_To g13 g28 g29 g30 g31 g32 g33 s0 s1 s2 s3) [1, 0, 1, 1] [1, 2, 4, 18] [.v (.one (.d (.int .i64) x0)), .v (.one (.ptr 0 0)), .v (.one (.ptr 1 0)), .v (.one (.d .bool x1))] [some (.box [(.d (.int .i64) x2), (.d (.int .i64) x3), (.d (.int .u64) x4), (.d .str x5)]), some (.box [(.d (.int .i64) x6), (.d (.int .i64) x7), (.d (.int .u64) x8), (.d .str x9)])] some = transomref07_To.s0c g13 g28 g29 g30 g31 g32 g33 s0 s1 s2 s3 x0 x1 x2 x3 x4 x5 x6 x7 x8 x9 (fun r => some ⟨.tup [(.agg [(.d (.int .i64) r.1), (.d (.int .i64) r.2.1), (.d (.int .u64) r.2.2.1), (.d .str r.2.2.2.1)]), (.one (.d (.int .i64) r.2.2.2.2))], []⟩) := by
  kernel_rfl
theorem transomref07_To.s1_ev (g13 : Int → Int → Option Bool) (g28 : Int → Int → Int → ByteArray → Option Int) (g29 : Int → Int → Option (Int × Int × Int × ByteArray × Int)) (g30 : Int → Int → Option (Int × Int × Int × ByteArray × Int)) (g31 : Int → Int → Option (Int × Int × Int × ByteArray × Int)) (g32 : ByteArray → Int → Option (Int × Int × Int × ByteArray × Int)) (g33 : ByteArray → Int → Option (Int × Int × Int × ByteArray × Int)) (s0 : Int → Bool → Int → Int → Int → ByteArray → Int → Int → Int → ByteArray → Option (Int × Int × Int × ByteArray × Int)) (s1 : Int → Int → Int → Int → ByteArray → Int → Int → Int → ByteArray → Option (Int × Int × Int × ByteArray × Int)) (s2 : Int → Bool → Int → Int → Int → ByteArray → Int → Int → Int → ByteArray → Option (Int × Int × Int × ByteArray × Int)) (s3 : Int → Int → Int → Int → ByteArray → Int → Int → Int → ByteArray → Option (Int × Int × Int × ByteArray × Int)) (x0 : Int) (x1 : Int) (x2 : Int) (x3 : Int) (x4 : ByteArray) (x5 : Int) (x6 : Int) (x7 : Int) (x8 : ByteArray) : evAt (env_transomref07_To g13 g28 g29 g30 g31 g32 g33 s0 s1 s2 s3) [1, 1, 1] [1, 2, 4] [.v (.one (.d (.int .i64) x0)), .v (.one (.ptr 0 0)), .v (.one (.ptr 1 0))] [some (.box [(.d (.int .i64) x1), (.d (.int .i64) x2), (.d (.int .u64) x3), (.d .str x4)]), some (.box [(.d (.int .i64) x5), (.d (.int .i64) x6), (.d (.int .u64) x7), (.d .str x8)])] some = transomref07_To.s1c g13 g28 g29 g30 g31 g32 g33 s0 s1 s2 s3 x0 x1 x2 x3 x4 x5 x6 x7 x8 (fun r => some ⟨.tup [(.agg [(.d (.int .i64) r.1), (.d (.int .i64) r.2.1), (.d (.int .u64) r.2.2.1), (.d .str r.2.2.2.1)]), (.one (.d (.int .i64) r.2.2.2.2))], []⟩) := by
  kernel_rfl
theorem transomref07_To.s2_ev (g13 : Int → Int → Option Bool) (g28 : Int → Int → Int → ByteArray → Option Int) (g29 : Int → Int → Option (Int × Int × Int × ByteArray × Int)) (g30 : Int → Int → Option (Int × Int × Int × ByteArray × Int)) (g31 : Int → Int → Option (Int × Int × Int × ByteArray × Int)) (g32 : ByteArray → Int → Option (Int × Int × Int × ByteArray × Int)) (g33 : ByteArray → Int → Option (Int × Int × Int × ByteArray × Int)) (s0 : Int → Bool → Int → Int → Int → ByteArray → Int → Int → Int → ByteArray → Option (Int × Int × Int × ByteArray × Int)) (s1 : Int → Int → Int → Int → ByteArray → Int → Int → Int → ByteArray → Option (Int × Int × Int × ByteArray × Int)) (s2 : Int → Bool → Int → Int → Int → ByteArray → Int → Int → Int → ByteArray → Option (Int × Int × Int × ByteArray × Int)) (s3 : Int → Int → Int → Int → ByteArray → Int → Int → Int → ByteArray → Option (Int × Int × Int × ByteArray × Int)) (x0 : Int) (x1 : Bool) (x2 : Int) (x3 : Int) (x4 : Int) (x5 : ByteArray) (x6 : Int) (x7 : Int) (x8 : Int) (x9 : ByteArray) : evAt (env_transomref07_To g13 g28 g29 g30 g31 g32 g33 s0 s1 s2 s3) [1, 0, 1, 1, 1] [1, 2, 4, 28] [.v (.one (.d (.int .i64) x0)), .v (.one (.ptr 0 0)), .v (.one (.ptr 1 0)), .v (.one (.d .bool x1))] [some (.box [(.d (.int .i64) x2), (.d (.int .i64) x3), (.d (.int .u64) x4), (.d .str x5)]), some (.box [(.d (.int .i64) x6), (.d (.int .i64) x7), (.d (.int .u64) x8), (.d .str x9)])] some = transomref07_To.s2c g13 g28 g29 g30 g31 g32 g33 s0 s1 s2 s3 x0 x1 x2 x3 x4 x5 x6 x7 x8 x9 (fun r => some ⟨.tup [(.agg [(.d (.int .i64) r.1), (.d (.int .i64) r.2.1), (.d (.int .u64) r.2.2.1), (.d .str r.2.2.2.1)]), (.one (.d (.int .i64) r.2.2.2.2))], []⟩) := by
  kernel_rfl
theorem transomref07_To.s3_ev (g13 : Int → Int → Option Bool) (g28 : Int → Int → Int → ByteArray → Option Int) (g29 : Int → Int → Option (Int × Int × Int × ByteArray × Int)) (g30 : Int → Int → Option (Int × Int × Int × ByteArray × Int)) (g31 : Int → Int → Option (Int × Int × Int × ByteArray × Int)) (g32 : ByteArray → Int → Option (Int × Int × Int × ByteArray × Int)) (g33 : ByteArray → Int → Option (Int × Int × Int × ByteArray × Int)) (s0 : Int → Bool → Int → Int → Int → ByteArray → Int → Int → Int → ByteArray → Option (Int × Int × Int × ByteArray × Int)) (s1 : Int → Int → Int → Int → ByteArray → Int → Int → Int → ByteArray → Option (Int × Int × Int × ByteArray × Int)) (s2 : Int → Bool → Int → Int → Int → ByteArray → Int → Int → Int → ByteArray → Option (Int × Int × Int × ByteArray × Int)) (s3 : Int → Int → Int → Int → ByteArray → Int → Int → Int → ByteArray → Option (Int × Int × Int × ByteArray × Int)) (x0 : Int) (x1 : Int) (x2 : Int) (x3 : Int) (x4 : ByteArray) (x5 : Int) (x6 : Int) (x7 : Int) (x8 : ByteArray) : evAt (env_transomref07_To g13 g28 g29 g30 g31 g32 g33 s0 s1 s2 s3) [1, 1, 1, 1] [1, 2, 4] [.v (.one (.d (.int .i64) x0)), .v (.one (.ptr 0 0)), .v (.one (.ptr 1 0))] [some (.box [(.d (.int .i64) x1), (.d (.int .i64) x2), (.d (.int .u64) x3), (.d .str x4)]), some (.box [(.d (.int .i64) x5), (.d (.int .i64) x6), (.d (.int .u64) x7), (.d .str x8)])] some = transomref07_To.s3c g13 g28 g29 g30 g31 g32 g33 s0 s1 s2 s3 x0 x1 x2 x3 x4 x5 x6 x7 x8 (fun r => some ⟨.tup [(.agg [(.d (.int .i64) r.1), (.d (.int .i64) r.2.1), (.d (.int .u64) r.2.2.1), (.d .str r.2.2.2.1)]), (.one (.d (.int .i64) r.2.2.2.2))], []⟩) := by
  kernel_rfl
mutual
def transomref07_To.s0 : Nat → Int → Bool → Int → Int → Int → ByteArray → Int → Int → Int → ByteArray → Option (Int × Int × Int × ByteArray × Int)
  | 0, _, _, _, _, _, _, _, _, _, _ => none
  | k + 1, x0, x1, x2, x3, x4, x5, x6, x7, x8, x9 => transomref07_To.s0c (transomref07_Can.f k) (transomref04_Check.f k) (transomref07_fromBool.f k) (transomref07_fromInt.f k) (transomref07_fromReal.f k) (transomref07_fromBytes.f k) (transomref07_fromText.f k) (transomref07_To.s0 k) (transomref07_To.s1 k) (transomref07_To.s2 k) (transomref07_To.s3 k) x0 x1 x2 x3 x4 x5 x6 x7 x8 x9 some
def transomref07_To.s1 : Nat → Int → Int → Int → Int → ByteArray → Int → Int → Int → ByteArray → Option (Int × Int × Int × ByteArray × Int)
  | 0, _, _, _, _, _, _, _, _, _ => none
  | k + 1, x0, x1, x2, x3, x4, x5, x6, x7, x8 => transomref07_To.s1c (transomref07_Can.f k) (transomref04_Check.f k) (transomref07_fromBool.f k) (transomref07_fromInt.f k) (transomref07_fromReal.f k) (transomref07_fromBytes.f k) (transomref07_fromText.f k) (transomref07_To.s0 k) (transomref07_To.s1 k) (transomref07_To.s2 k) (transomref07_To.s3 k) x0 x1 x2 x3 x4 x5 x6 x7 x8 some
def transomref07_To.s2 : Nat → Int → Bool → Int → Int → Int → ByteArray → Int → Int → Int → ByteArray → Option (Int × Int × Int × ByteArray × Int)
  | 0, _, _, _, _, _, _, _, _, _, _ => none
  | k + 1, x0, x1, x2, x3, x4, x5, x6, x7, x8, x9 => transomref07_To.s2c (transomref07_Can.f k) (transomref04_Check.f k) (transomref07_fromBool.f k) (transomref07_fromInt.f k) (transomref07_fromReal.f k) (transomref07_fromBytes.f k) (transomref07_fromText.f k) (transomref07_To.s0 k) (transomref07_To.s1 k) (transomref07_To.s2 k) (transomref07_To.s3 k) x0 x1 x2 x3 x4 x5 x6 x7 x8 x9 some
def transomref07_To.s3 : Nat → Int → Int → Int → Int → ByteArray → Int → Int → Int → ByteArray → Option (Int × Int × Int × ByteArray × Int)
  | 0, _, _, _, _, _, _, _, _, _ => none
  | k + 1, x0, x1, x2, x3, x4, x5, x6, x7, x8 => transomref07_To.s3c (transomref07_Can.f k) (transomref04_Check.f k) (transomref07_fromBool.f k) (transomref07_fromInt.f k) (transomref07_fromReal.f k) (transomref07_fromBytes.f k) (transomref07_fromText.f k) (transomref07_To.s0 k) (transomref07_To.s1 k) (transomref07_To.s2 k) (transomref07_To.s3 k) x0 x1 x2 x3 x4 x5 x6 x7 x8 some
end
def transomref07_To.f (k : Nat) (a0 : Int) (a1 : Int) (a2 : Int) (a3 : ByteArray) (a4 : Int) : Option (Int × Int × Int × ByteArray × Int) := transomref07_To.c (transomref07_Can.f k) (transomref04_Check.f k) (transomref07_fromBool.f k) (transomref07_fromInt.f k) (transomref07_fromReal.f k) (transomref07_fromBytes.f k) (transomref07_fromText.f k) (transomref07_To.s0 k) (transomref07_To.s1 k) (transomref07_To.s2 k) (transomref07_To.s3 k) a0 a1 a2 a3 a4 some
theorem transomref07_To.is (g13 : Int → Int → Option Bool) (g28 : Int → Int → Int → ByteArray → Option Int) (g29 : Int → Int → Option (Int × Int × Int × ByteArray × Int)) (g30 : Int → Int → Option (Int × Int × Int × ByteArray × Int)) (g31 : Int → Int → Option (Int × Int × Int × ByteArray × Int)) (g32 : ByteArray → Int → Option (Int × Int × Int × ByteArray × Int)) (g33 : ByteArray → Int → Option (Int × Int × Int × ByteArray × Int)) (s0 : Int → Bool → Int → Int → Int → ByteArray → Int → Int → Int → ByteArray → Option (Int × Int × Int × ByteArray × Int)) (s1 : Int → Int → Int → Int → ByteArray → Int → Int → Int → ByteArray → Option (Int × Int × Int × ByteArray × Int)) (s2 : Int → Bool → Int → Int → Int → ByteArray → Int → Int → Int → ByteArray → Option (Int × Int × Int × ByteArray × Int)) (s3 : Int → Int → Int → Int → ByteArray → Int → Int → Int → ByteArray → Option (Int × Int × Int × ByteArray × Int)) : FnIs (env_transomref07_To g13 g28 g29 g30 g31 g32 g33 s0 s1 s2 s3) 10 Go.Proofs.Try.f10 := ⟨Go.Proofs.Try.func10, rfl, rfl, rfl, by decide⟩
theorem transomref07_To.envok (g13 : Int → Int → Option Bool) (g28 : Int → Int → Int → ByteArray → Option Int) (g29 : Int → Int → Option (Int × Int × Int × ByteArray × Int)) (g30 : Int → Int → Option (Int × Int × Int × ByteArray × Int)) (g31 : Int → Int → Option (Int × Int × Int × ByteArray × Int)) (g32 : ByteArray → Int → Option (Int × Int × Int × ByteArray × Int)) (g33 : ByteArray → Int → Option (Int × Int × Int × ByteArray × Int)) (s0 : Int → Bool → Int → Int → Int → ByteArray → Int → Int → Int → ByteArray → Option (Int × Int × Int × ByteArray × Int)) (s1 : Int → Int → Int → Int → ByteArray → Int → Int → Int → ByteArray → Option (Int × Int × Int × ByteArray × Int)) (s2 : Int → Bool → Int → Int → Int → ByteArray → Int → Int → Int → ByteArray → Option (Int × Int × Int × ByteArray × Int)) (s3 : Int → Int → Int → Int → ByteArray → Int → Int → Int → ByteArray → Option (Int × Int × Int × ByteArray × Int)) (h13 : CtOK Go.Proofs.Try.prog 13 (ct_transomref07_Can g13)) (h28 : CtOK Go.Proofs.Try.prog 28 (ct_transomref04_Check g28)) (h29 : CtOK Go.Proofs.Try.prog 29 (ct_transomref07_fromBool g29)) (h30 : CtOK Go.Proofs.Try.prog 30 (ct_transomref07_fromInt g30)) (h31 : CtOK Go.Proofs.Try.prog 31 (ct_transomref07_fromReal g31)) (h32 : CtOK Go.Proofs.Try.prog 32 (ct_transomref07_fromBytes g32)) (h33 : CtOK Go.Proofs.Try.prog 33 (ct_transomref07_fromText g33)) : EnvOK (env_transomref07_To g13 g28 g29 g30 g31 g32 g33 s0 s1 s2 s3).toEnv := by
  intro f c h
  simp only [env_transomref07_To] at h
  split at h
  · rename_i e; subst e; cases h; exact h13
  split at h
  · rename_i e; subst e; cases h; exact h28
  split at h
  · rename_i e; subst e; cases h; exact h29
  split at h
  · rename_i e; subst e; cases h; exact h30
  split at h
  · rename_i e; subst e; cases h; exact h31
  split at h
  · rename_i e; subst e; cases h; exact h32
  split at h
  · rename_i e; subst e; cases h; exact h33
  simp at h
theorem transomref07_To.segs_ok : ∀ k, ∀ s ∈ (env_transomref07_To (transomref07_Can.f k) (transomref04_Check.f k) (transomref07_fromBool.f k) (transomref07_fromInt.f k) (transomref07_fromReal.f k) (transomref07_fromBytes.f k) (transomref07_fromText.f k) (transomref07_To.s0 k) (transomref07_To.s1 k) (transomref07_To.s2 k) (transomref07_To.s3 k)).segs, SegOK (env_transomref07_To (transomref07_Can.f k) (transomref04_Check.f k) (transomref07_fromBool.f k) (transomref07_fromInt.f k) (transomref07_fromReal.f k) (transomref07_fromBytes.f k) (transomref07_fromText.f k) (transomref07_To.s0 k) (transomref07_To.s1 k) (transomref07_To.s2 k) (transomref07_To.s3 k)) Go.Proofs.Try.f10 s
  | 0 => by
    intro s hs
    simp only [env_transomref07_To, List.mem_cons, List.not_mem_nil, or_false] at hs
    rcases hs with rfl | rfl | rfl | rfl
    · intro tvs blks res h; exfalso; simp only [seg_transomref07_To_0] at h; split at h <;> simp [transomref07_To.s0] at h
    · intro tvs blks res h; exfalso; simp only [seg_transomref07_To_1] at h; split at h <;> simp [transomref07_To.s1] at h
    · intro tvs blks res h; exfalso; simp only [seg_transomref07_To_2] at h; split at h <;> simp [transomref07_To.s2] at h
    · intro tvs blks res h; exfalso; simp only [seg_transomref07_To_3] at h; split at h <;> simp [transomref07_To.s3] at h
  | k + 1 => by
    have ih := transomref07_To.segs_ok k
    intro s hs
    simp only [env_transomref07_To, List.mem_cons, List.not_mem_nil, or_false] at hs
    rcases hs with rfl | rfl | rfl | rfl
    · refine seg_of_ev (E := env_transomref07_To (transomref07_Can.f k) (transomref04_Check.f k) (transomref07_fromBool.f k) (transomref07_fromInt.f k) (transomref07_fromReal.f k) (transomref07_fromBytes.f k) (transomref07_fromText.f k) (transomref07_To.s0 k) (transomref07_To.s1 k) (transomref07_To.s2 k) (transomref07_To.s3 k)) (transomref07_To.envok _ _ _ _ _ _ _ _ _ _ _  (transomref07_Can.ok k) (transomref04_Check.ok k) (transomref07_fromBool.ok k) (transomref07_fromInt.ok k) (transomref07_fromReal.ok k) (transomref07_fromBytes.ok k) (transomref07_fromText.ok k)) ⟨(transomref07_To.is (transomref07_Can.f k) (transomref04_Check.f k) (transomref07_fromBool.f k) (transomref07_fromInt.f k) (transomref07_fromReal.f k) (transomref07_fromBytes.f k) (transomref07_fromText.f k) (transomref07_To.s0 k) (transomref07_To.s1 k) (transomref07_To.s2 k) (transomref07_To.s3 k)).rvs⟩ ih ?_
      intro tvs blks res h
      simp only [seg_transomref07_To_0] at h
      split at h
      · refine (transomref07_To.s0_ev (transomref07_Can.f k) (transomref04_Check.f k) (transomref07_fromBool.f k) (transomref07_fromInt.f k) (transomref07_fromReal.f k) (transomref07_fromBytes.f k) (transomref07_fromText.f k) (transomref07_To.s0 k) (transomref07_To.s1 k) (transomref07_To.s2 k) (transomref07_To.s3 k) _ _ _ _ _ _ _ _ _ _ ).trans ?_
        rw [transomref07_To.s0c_bind]
        exact h
      · simp at h
    · refine seg_of_ev (E := env_transomref07_To (transomref07_Can.f k) (transomref04_Check.f k) (transomref07_fromBool.f k) (transomref07_fromInt.f k) (transomref07_fromReal.f k) (transomref07_fromBytes.f k) (transomref07_fromText.f k) (transomref07_To.s0 k) (transomref07_To.s1 k) (transomref07_To.s2 k) (transomref07_To.s3 k)) (transomref07_To.envok _ _ _ _ _ _ _ _ _ _ _  (transomref07_Can.ok k) (transomref04_Check.ok k) (transomref07_fromBool.ok k) (transomref07_fromInt.ok k) (transomref07_fromReal.ok k) (transomref07_fromBytes.ok k) (transomref07_fromText.ok k)) ⟨(transomref07_To.is (transomref07_Can.f k) (transomref04_Check.f k) (transomref07_fromBool.f k) (transomref07_fromInt.f k) (transomref07_fromReal.f k) (transomref07_fromBytes.f k) (transomref07_fromText.f k) (transomref07_To.s0 k) (transomref07_To.s1 k) (transomref07_To.s2 k) (transomref07_To.s3 k)).rvs⟩ ih ?_
      intro tvs blks res h
      simp only [seg_transomref07_To_1] at h
      split at h
      · refine (transomref07_To.s1_ev (transomref07_Can.f k) (transomref04_Check.f k) (transomref07_fromBool.f k) (transomref07_fromInt.f k) (transomref07_fromReal.f k) (transomref07_fromBytes.f k) (transomref07_fromText.f k) (transomref07_To.s0 k) (transomref07_To.s1 k) (transomref07_To.s2 k) (transomref07_To.s3 k) _ _ _ _ _ _ _ _ _ ).trans ?_
        rw [transomref07_To.s1c_bind]
        exact h
      · simp at h
    · refine seg_of_ev (E := env_transomref07_To (transomref07_Can.f k) (transomref04_Check.f k) (transomref07_fromBool.f k) (transomref07_fromInt.f k) (transomref07_fromReal.f k) (transomref07_fromBytes.f k) (transomref07_fromText.f k) (transomref07_To.s0 k) (transomref07_To.s1 k) (transomref07_To.s2 k) (transomref07_To.s3 k)) (transomref07_To.envok _ _ _ _ _ _ _ _ _ _ _  (transomref07_Can.ok k) (transomref04_Check.ok k) (transomref07_fromBool.ok k) (transomref07_fromInt.ok k) (transomref07_fromReal.ok k) (transomref07_fromBytes.ok k) (transomref07_fromText.ok k)) ⟨(transomref07_To.is (transomref07_Can.f k) (transomref04_Check.f k) (transomref07_fromBool.f k) (transomref07_fromInt.f k) (transomref07_fromReal.f k) (transomref07_fromBytes.f k) (transomref07_fromText.f k) (transomref07_To.s0 k) (transomref07_To.s1 k) (transomref07_To.s2 k) (transomref07_To.s3 k)).rvs⟩ ih ?_
      intro tvs blks res h
      simp only [seg_transomref07_To_2] at h
      split at h
      · refine (transomref07_To.s2_ev (transomref07_Can.f k) (transomref04_Check.f k) (transomref07_fromBool.f k) (transomref07_fromInt.f k) (transomref07_fromReal.f k) (transomref07_fromBytes.f k) (transomref07_fromText.f k) (transomref07_To.s0 k) (transomref07_To.s1 k) (transomref07_To.s2 k) (transomref07_To.s3 k) _ _ _ _ _ _ _ _ _ _ ).trans ?_
        rw [transomref07_To.s2c_bind]
        exact h
      · simp at h
    · refine seg_of_ev (E := env_transomref07_To (transomref07_Can.f k) (transomref04_Check.f k) (transomref07_fromBool.f k) (transomref07_fromInt.f k) (transomref07_fromReal.f k) (transomref07_fromBytes.f k) (transomref07_fromText.f k) (transomref07_To.s0 k) (transomref07_To.s1 k) (transomref07_To.s2 k) (transomref07_To.s3 k)) (transomref07_To.envok _ _ _ _ _ _ _ _ _ _ _  (transomref07_Can.ok k) (transomref04_Check.ok k) (transomref07_fromBool.ok k) (transomref07_fromInt.ok k) (transomref07_fromReal.ok k) (transomref07_fromBytes.ok k) (transomref07_fromText.ok k)) ⟨(transomref07_To.is (transomref07_Can.f k) (transomref04_Check.f k) (transomref07_fromBool.f k) (transomref07_fromInt.f k) (transomref07_fromReal.f k) (transomref07_fromBytes.f k) (transomref07_fromText.f k) (transomref07_To.s0 k) (transomref07_To.s1 k) (transomref07_To.s2 k) (transomref07_To.s3 k)).rvs⟩ ih ?_
      intro tvs blks res h
      simp only [seg_transomref07_To_3] at h
      split at h
      · refine (transomref07_To.s3_ev (transomref07_Can.f k) (transomref04_Check.f k) (transomref07_fromBool.f k) (transomref07_fromInt.f k) (transomref07_fromReal.f k) (transomref07_fromBytes.f k) (transomref07_fromText.f k) (transomref07_To.s0 k) (transomref07_To.s1 k) (transomref07_To.s2 k) (transomref07_To.s3 k) _ _ _ _ _ _ _ _ _ ).trans ?_
        rw [transomref07_To.s3c_bind]
        exact h
      · simp at h
theorem transomref07_To.ok (k : Nat) : CtOK Go.Proofs.Try.prog 10 (ct_transomref07_To (transomref07_To.f k)) := by
  refine ct_of_ev (E := env_transomref07_To (transomref07_Can.f k) (transomref04_Check.f k) (transomref07_fromBool.f k) (transomref07_fromInt.f k) (transomref07_fromReal.f k) (transomref07_fromBytes.f k) (transomref07_fromText.f k) (transomref07_To.s0 k) (transomref07_To.s1 k) (transomref07_To.s2 k) (transomref07_To.s3 k)) (transomref07_To.is _ _ _ _ _ _ _ _ _ _ _ ) (transomref07_To.envok _ _ _ _ _ _ _ _ _ _ _  (transomref07_Can.ok k) (transomref04_Check.ok k) (transomref07_fromBool.ok k) (transomref07_fromInt.ok k) (transomref07_fromReal.ok k) (transomref07_fromBytes.ok k) (transomref07_fromText.ok k)) (transomref07_To.segs_ok k) rfl ?_
  intro tvs blks res h
  simp only [ct_transomref07_To] at h
  split at h
  · refine (transomref07_To.ev (transomref07_Can.f k) (transomref04_Check.f k) (transomref07_fromBool.f k) (transomref07_fromInt.f k) (transomref07_fromReal.f k) (transomref07_fromBytes.f k) (transomref07_fromText.f k) (transomref07_To.s0 k) (transomref07_To.s1 k) (transomref07_To.s2 k) (transomref07_To.s3 k) _ _ _ _ _ ).trans ?_
    rw [transomref07_To.c_bind]
    exact h
  · simp at h

/-! ### transomref04_Same: function 11 -/
def ct_transomref04_Same (g : Int → Int → Int → ByteArray → Int → Int → Int → ByteArray → Option Bool) : Ct where
  nin := 0
  mv := []
  F := fun tvs blks {β} K => match tvs, blks with
    | [.v (.agg [(.d (.int .i64) a0), (.d (.int .i64) a1), (.d (.int .u64) a2), (.d .str a3)]), .v (.agg [(.d (.int .i64) a4), (.d (.int .i64) a5), (.d (.int .u64) a6), (.d .str a7)])], [] => (g a0 a1 a2 a3 a4 a5 a6 a7).bind fun r => K ⟨.v (.one (.d .bool r)), []⟩
    | _, _ => none
  legit := fun tvs blks K r h => by
    split at h
    · obtain ⟨x, hx, hk⟩ := Option.bind_eq_some_iff.1 h
      refine ⟨_, ?_, hk⟩
      simp only [hx, Option.bind_some]
    · simp at h
noncomputable def env_transomref04_Same   : FEnv := { P := Go.Proofs.Try.prog, ct := fun m => none, N := 31, body := Go.Proofs.Try.f11.body.getD .skip, rvs := [.tmp 4], rts := [4], nin := 0, rmv := [], segs := [] }
def transomref04_Same.c {β : Type}   (a0 : Int) (a1 : Int) (a2 : Int) (a3 : ByteArray) (a4 : Int) (a5 : Int) (a6 : Int) (a7 : ByteArray) (ret : Bool → Option β) : Option β := (bif (a0 == a4) then (bif (a1 == a5) then (bif (a2 == a6) then (ret (((ByteArray.toList a3) == (ByteArray.toList a7)))) else (ret (false))) else (ret (false))) else (ret (false)))
theorem transomref04_Same.c_bind {β : Type}   (a0 : Int) (a1 : Int) (a2 : Int) (a3 : ByteArray) (a4 : Int) (a5 : Int) (a6 : Int) (a7 : ByteArray) (ret : Bool → Option β) : transomref04_Same.c   a0 a1 a2 a3 a4 a5 a6 a7 ret = (transomref04_Same.c   a0 a1 a2 a3 a4 a5 a6 a7 some).bind ret := by
  simp only [transomref04_Same.c, bif_bind, sum_bind, Option.bind_assoc, Option.bind_some, Option.bind_none, Option.bind_fun_some]
theorem transomref04_Same.ev   (a0 : Int) (a1 : Int) (a2 : Int) (a3 : ByteArray) (a4 : Int) (a5 : Int) (a6 : Int) (a7 : ByteArray) : evAt (env_transomref04_Same  ) [] [0, 1] [.v (.agg [(.d (.int .i64) a0), (.d (.int .i64) a1), (.d (.int .u64) a2), (.d .str a3)]), .v (.agg [(.d (.int .i64) a4), (.d (.int .i64) a5), (.d (.int .u64) a6), (.d .str a7)])] [] some = transomref04_Same.c   a0 a1 a2 a3 a4 a5 a6 a7 (fun r => some ⟨.v (.one (.d .bool r)), []⟩) := by
  kernel_rfl
def transomref04_Same.f (k : Nat) (a0 : Int) (a1 : Int) (a2 : Int) (a3 : ByteArray) (a4 : Int) (a5 : Int) (a6 : Int) (a7 : ByteArray) : Option Bool := transomref04_Same.c   a0 a1 a2 a3 a4 a5 a6 a7 some
theorem transomref04_Same.is   : FnIs (env_transomref04_Same  ) 11 Go.Proofs.Try.f11 := ⟨Go.Proofs.Try.func11, rfl, rfl, rfl, by decide⟩
theorem transomref04_Same.envok    : EnvOK (env_transomref04_Same  ).toEnv := by
  intro f c h
  simp only [env_transomref04_Same] at h
  simp at h
theorem transomref04_Same.ok (k : Nat) : CtOK Go.Proofs.Try.prog 11 (ct_transomref04_Same (transomref04_Same.f k)) := by
  refine ct_of_ev (E := env_transomref04_Same  ) (transomref04_Same.is ) (transomref04_Same.envok  ) (fun s hs => by simp [env_transomref04_Same] at hs) rfl ?_
  intro tvs blks res h
  simp only [ct_transomref04_Same] at h
  split at h
  · refine (transomref04_Same.ev   _ _ _ _ _ _ _ _ ).trans ?_
    rw [transomref04_Same.c_bind]
    exact h
  · simp at h
end Go.Proofs.Ytndkobhclggeiaa.Aev
