/- By a program of this session (AEV): functions of the program as plain functions, and that the machine does what they say. -/
import Derived.Test.YtlclhjdfbkenfaaAevW
import Derived.Test.YtlclhjdfbkenfaaProg
import Derived.Laws.Externs
import Derived.Lib.Bytealg
namespace Go.Proofs.Ytlclhjdfbkenfaa.Aev
set_option linter.unusedVariables false
set_option linter.unusedSimpArgs false
set_option maxRecDepth 100000
set_option maxHeartbeats 4000000
open Go
/-! ### rows_Pick: function 15 -/
def ct_rows_Pick (g : (List (Int × (Int × (Int × (ByteArray × Unit))))) → (List Int) → Option ((List (Int × (Int × (Int × (ByteArray × Unit))))) × Int)) : Ct where
  nin := 0
  mv := []
  F := fun tvs blks {β} K => match tvs, blks with
    | [.v (.one (.d (.sl (.pair (.int .i64) (.pair (.int .i64) (.pair (.int .u64) (.pair .str .unit))))) a0)), .v (.one (.d (.sl (.int .i64)) a1))], [] => (g a0 a1).bind fun r => K ⟨.tup [(.one (.d (.sl (.pair (.int .i64) (.pair (.int .i64) (.pair (.int .u64) (.pair .str .unit))))) r.1)), (.one (.d (.int .i64) r.2))], []⟩
    | _, _ => none
  legit := fun tvs blks K r h => by
    split at h
    · obtain ⟨x, hx, hk⟩ := Option.bind_eq_some_iff.1 h
      refine ⟨_, ?_, hk⟩
      simp only [hx, Option.bind_some]
    · simp at h
def seg_rows_Pick_0 (g : (List (Int × (Int × (Int × (ByteArray × Unit))))) → (List Int) → Int → Int → (List (Int × (Int × (Int × (ByteArray × Unit))))) → Option ((List (Int × (Int × (Int × (ByteArray × Unit))))) × Int)) : Seg where
  path := [4, 1, 0, 1, 1]
  prep := [.own 6 (.pair (.int .i64) (.pair (.int .i64) (.pair (.int .u64) (.pair .str .unit))))]
  keep := [0, 6, 9, 10, 11]
  F := fun tvs blks {β} K => match tvs, blks with
    | [.v (.one (.d (.sl (.pair (.int .i64) (.pair (.int .i64) (.pair (.int .u64) (.pair .str .unit))))) x0)), .v (.one (.own 0)), .v (.one (.d (.sl (.int .i64)) x1)), .v (.one (.d (.int .i64) x2)), .v (.one (.d (.int .i64) x3))], [some (.own (.pair (.int .i64) (.pair (.int .i64) (.pair (.int .u64) (.pair .str .unit)))) false x4)] => (g x0 x1 x2 x3 x4).bind fun r => K ⟨.tup [(.one (.d (.sl (.pair (.int .i64) (.pair (.int .i64) (.pair (.int .u64) (.pair .str .unit))))) r.1)), (.one (.d (.int .i64) r.2))], []⟩
    | _, _ => none
  legit := fun tvs blks K r h => by
    split at h
    · obtain ⟨x, hx, hk⟩ := Option.bind_eq_some_iff.1 h
      refine ⟨_, ?_, hk⟩
      simp only [hx, Option.bind_some]
    · simp at h
def seg_rows_Pick_1 (g : (List (Int × (Int × (Int × (ByteArray × Unit))))) → Int → (List Int) → Int → Int → Bool → (List (Int × (Int × (Int × (ByteArray × Unit))))) → Option ((List (Int × (Int × (Int × (ByteArray × Unit))))) × Int)) : Seg where
  path := [1, 0, 1, 4, 0, 1, 1, 5, 4, 1, 0, 1, 1]
  prep := []
  keep := [0, 6, 8, 9, 10, 11, 22]
  F := fun tvs blks {β} K => match tvs, blks with
    | [.v (.one (.d (.sl (.pair (.int .i64) (.pair (.int .i64) (.pair (.int .u64) (.pair .str .unit))))) x0)), .v (.one (.own 0)), .v (.one (.d (.int .i64) x1)), .v (.one (.d (.sl (.int .i64)) x2)), .v (.one (.d (.int .i64) x3)), .v (.one (.d (.int .i64) x4)), .v (.one (.d .bool x5))], [some (.own (.pair (.int .i64) (.pair (.int .i64) (.pair (.int .u64) (.pair .str .unit)))) false x6)] => (g x0 x1 x2 x3 x4 x5 x6).bind fun r => K ⟨.tup [(.one (.d (.sl (.pair (.int .i64) (.pair (.int .i64) (.pair (.int .u64) (.pair .str .unit))))) r.1)), (.one (.d (.int .i64) r.2))], []⟩
    | _, _ => none
  legit := fun tvs blks K r h => by
    split at h
    · obtain ⟨x, hx, hk⟩ := Option.bind_eq_some_iff.1 h
      refine ⟨_, ?_, hk⟩
      simp only [hx, Option.bind_some]
    · simp at h
def seg_rows_Pick_2 (g : (List (Int × (Int × (Int × (ByteArray × Unit))))) → Int → (List Int) → Int → Int → (List (Int × (Int × (Int × (ByteArray × Unit))))) → Option ((List (Int × (Int × (Int × (ByteArray × Unit))))) × Int)) : Seg where
  path := [1, 1, 4, 0, 1, 1, 5, 4, 1, 0, 1, 1]
  prep := []
  keep := [0, 6, 8, 9, 10, 11]
  F := fun tvs blks {β} K => match tvs, blks with
    | [.v (.one (.d (.sl (.pair (.int .i64) (.pair (.int .i64) (.pair (.int .u64) (.pair .str .unit))))) x0)), .v (.one (.own 0)), .v (.one (.d (.int .i64) x1)), .v (.one (.d (.sl (.int .i64)) x2)), .v (.one (.d (.int .i64) x3)), .v (.one (.d (.int .i64) x4))], [some (.own (.pair (.int .i64) (.pair (.int .i64) (.pair (.int .u64) (.pair .str .unit)))) false x5)] => (g x0 x1 x2 x3 x4 x5).bind fun r => K ⟨.tup [(.one (.d (.sl (.pair (.int .i64) (.pair (.int .i64) (.pair (.int .u64) (.pair .str .unit))))) r.1)), (.one (.d (.int .i64) r.2))], []⟩
    | _, _ => none
  legit := fun tvs blks K r h => by
    split at h
    · obtain ⟨x, hx, hk⟩ := Option.bind_eq_some_iff.1 h
      refine ⟨_, ?_, hk⟩
      simp only [hx, Option.bind_some]
    · simp at h
def seg_rows_Pick_3 (g : (List (Int × (Int × (Int × (ByteArray × Unit))))) → (List Int) → Int → Int → (List (Int × (Int × (Int × (ByteArray × Unit))))) → Option ((List (Int × (Int × (Int × (ByteArray × Unit))))) × Int)) : Seg where
  path := [1, 1, 1, 5, 4, 1, 0, 1, 1]
  prep := []
  keep := [0, 6, 9, 10, 11]
  F := fun tvs blks {β} K => match tvs, blks with
    | [.v (.one (.d (.sl (.pair (.int .i64) (.pair (.int .i64) (.pair (.int .u64) (.pair .str .unit))))) x0)), .v (.one (.own 0)), .v (.one (.d (.sl (.int .i64)) x1)), .v (.one (.d (.int .i64) x2)), .v (.one (.d (.int .i64) x3))], [some (.own (.pair (.int .i64) (.pair (.int .i64) (.pair (.int .u64) (.pair .str .unit)))) false x4)] => (g x0 x1 x2 x3 x4).bind fun r => K ⟨.tup [(.one (.d (.sl (.pair (.int .i64) (.pair (.int .i64) (.pair (.int .u64) (.pair .str .unit))))) r.1)), (.one (.d (.int .i64) r.2))], []⟩
    | _, _ => none
  legit := fun tvs blks K r h => by
    split at h
    · obtain ⟨x, hx, hk⟩ := Option.bind_eq_some_iff.1 h
      refine ⟨_, ?_, hk⟩
      simp only [hx, Option.bind_some]
    · simp at h
noncomputable def env_rows_Pick  (s0 : (List (Int × (Int × (Int × (ByteArray × Unit))))) → (List Int) → Int → Int → (List (Int × (Int × (Int × (ByteArray × Unit))))) → Option ((List (Int × (Int × (Int × (ByteArray × Unit))))) × Int)) (s1 : (List (Int × (Int × (Int × (ByteArray × Unit))))) → Int → (List Int) → Int → Int → Bool → (List (Int × (Int × (Int × (ByteArray × Unit))))) → Option ((List (Int × (Int × (Int × (ByteArray × Unit))))) × Int)) (s2 : (List (Int × (Int × (Int × (ByteArray × Unit))))) → Int → (List Int) → Int → Int → (List (Int × (Int × (Int × (ByteArray × Unit))))) → Option ((List (Int × (Int × (Int × (ByteArray × Unit))))) × Int)) (s3 : (List (Int × (Int × (Int × (ByteArray × Unit))))) → (List Int) → Int → Int → (List (Int × (Int × (Int × (ByteArray × Unit))))) → Option ((List (Int × (Int × (Int × (ByteArray × Unit))))) × Int)) : FEnv := { P := Go.Proofs.Try.prog, ct := fun m => none, N := 32, body := Go.Proofs.Try.f15.body.getD .skip, rvs := [.tmp 4, .tmp 5], rts := [22, 25], nin := 0, rmv := [], segs := [seg_rows_Pick_0 s0, seg_rows_Pick_1 s1, seg_rows_Pick_2 s2, seg_rows_Pick_3 s3] }
def rows_Pick.c {β : Type}  (s0 : (List (Int × (Int × (Int × (ByteArray × Unit))))) → (List Int) → Int → Int → (List (Int × (Int × (Int × (ByteArray × Unit))))) → Option ((List (Int × (Int × (Int × (ByteArray × Unit))))) × Int)) (s1 : (List (Int × (Int × (Int × (ByteArray × Unit))))) → Int → (List Int) → Int → Int → Bool → (List (Int × (Int × (Int × (ByteArray × Unit))))) → Option ((List (Int × (Int × (Int × (ByteArray × Unit))))) × Int)) (s2 : (List (Int × (Int × (Int × (ByteArray × Unit))))) → Int → (List Int) → Int → Int → (List (Int × (Int × (Int × (ByteArray × Unit))))) → Option ((List (Int × (Int × (Int × (ByteArray × Unit))))) × Int)) (s3 : (List (Int × (Int × (Int × (ByteArray × Unit))))) → (List Int) → Int → Int → (List (Int × (Int × (Int × (ByteArray × Unit))))) → Option ((List (Int × (Int × (Int × (ByteArray × Unit))))) × Int)) (a0 : List (Int × (Int × (Int × (ByteArray × Unit))))) (a1 : List Int) (ret : ((List (Int × (Int × (Int × (ByteArray × Unit))))) × Int) → Option β) : Option β := ((s0 a0 a1 ((List.length a1) : Int) (0 : Int) []).bind ret)
def rows_Pick.s0c {β : Type}  (s0 : (List (Int × (Int × (Int × (ByteArray × Unit))))) → (List Int) → Int → Int → (List (Int × (Int × (Int × (ByteArray × Unit))))) → Option ((List (Int × (Int × (Int × (ByteArray × Unit))))) × Int)) (s1 : (List (Int × (Int × (Int × (ByteArray × Unit))))) → Int → (List Int) → Int → Int → Bool → (List (Int × (Int × (Int × (ByteArray × Unit))))) → Option ((List (Int × (Int × (Int × (ByteArray × Unit))))) × Int)) (s2 : (List (Int × (Int × (Int × (ByteArray × Unit))))) → Int → (List Int) → Int → Int → (List (Int × (Int × (Int × (ByteArray × Unit))))) → Option ((List (Int × (Int × (Int × (ByteArray × Unit))))) × Int)) (s3 : (List (Int × (Int × (Int × (ByteArray × Unit))))) → (List Int) → Int → Int → (List (Int × (Int × (Int × (ByteArray × Unit))))) → Option ((List (Int × (Int × (Int × (ByteArray × Unit))))) × Int)) (x0 : List (Int × (Int × (Int × (ByteArray × Unit))))) (x1 : List Int) (x2 : Int) (x3 : Int) (x4 : List (Int × (Int × (Int × (ByteArray × Unit))))) (ret : ((List (Int × (Int × (Int × (ByteArray × Unit))))) × Int) → Option β) : Option β := (bif (decide (x3 < x2)) then (bif ((decide ((0 : Int) ≤ x3)) && (decide (x3 < ((List.length x1) : Int)))) then (bif (decide ((elem (Ty.int IntKind.i64) x1 x3) < (0 : Int))) then ((s1 x0 (elem (Ty.int IntKind.i64) x1 x3) x1 x2 x3 true x4).bind ret) else ((s1 x0 (elem (Ty.int IntKind.i64) x1 x3) x1 x2 x3 (decide ((elem (Ty.int IntKind.i64) x1 x3) ≥ ((List.length x0) : Int))) x4).bind ret)) else none) else (ret (x4, (0 : Int))))
def rows_Pick.s1c {β : Type}  (s0 : (List (Int × (Int × (Int × (ByteArray × Unit))))) → (List Int) → Int → Int → (List (Int × (Int × (Int × (ByteArray × Unit))))) → Option ((List (Int × (Int × (Int × (ByteArray × Unit))))) × Int)) (s1 : (List (Int × (Int × (Int × (ByteArray × Unit))))) → Int → (List Int) → Int → Int → Bool → (List (Int × (Int × (Int × (ByteArray × Unit))))) → Option ((List (Int × (Int × (Int × (ByteArray × Unit))))) × Int)) (s2 : (List (Int × (Int × (Int × (ByteArray × Unit))))) → Int → (List Int) → Int → Int → (List (Int × (Int × (Int × (ByteArray × Unit))))) → Option ((List (Int × (Int × (Int × (ByteArray × Unit))))) × Int)) (s3 : (List (Int × (Int × (Int × (ByteArray × Unit))))) → (List Int) → Int → Int → (List (Int × (Int × (Int × (ByteArray × Unit))))) → Option ((List (Int × (Int × (Int × (ByteArray × Unit))))) × Int)) (x0 : List (Int × (Int × (Int × (ByteArray × Unit))))) (x1 : Int) (x2 : List Int) (x3 : Int) (x4 : Int) (x5 : Bool) (x6 : List (Int × (Int × (Int × (ByteArray × Unit))))) (ret : ((List (Int × (Int × (Int × (ByteArray × Unit))))) × Int) → Option β) : Option β := (bif x5 then (ret ([], (1 : Int))) else ((s2 x0 x1 x2 x3 x4 x6).bind ret))
def rows_Pick.s2c {β : Type}  (s0 : (List (Int × (Int × (Int × (ByteArray × Unit))))) → (List Int) → Int → Int → (List (Int × (Int × (Int × (ByteArray × Unit))))) → Option ((List (Int × (Int × (Int × (ByteArray × Unit))))) × Int)) (s1 : (List (Int × (Int × (Int × (ByteArray × Unit))))) → Int → (List Int) → Int → Int → Bool → (List (Int × (Int × (Int × (ByteArray × Unit))))) → Option ((List (Int × (Int × (Int × (ByteArray × Unit))))) × Int)) (s2 : (List (Int × (Int × (Int × (ByteArray × Unit))))) → Int → (List Int) → Int → Int → (List (Int × (Int × (Int × (ByteArray × Unit))))) → Option ((List (Int × (Int × (Int × (ByteArray × Unit))))) × Int)) (s3 : (List (Int × (Int × (Int × (ByteArray × Unit))))) → (List Int) → Int → Int → (List (Int × (Int × (Int × (ByteArray × Unit))))) → Option ((List (Int × (Int × (Int × (ByteArray × Unit))))) × Int)) (x0 : List (Int × (Int × (Int × (ByteArray × Unit))))) (x1 : Int) (x2 : List Int) (x3 : Int) (x4 : Int) (x5 : List (Int × (Int × (Int × (ByteArray × Unit))))) (ret : ((List (Int × (Int × (Int × (ByteArray × Unit))))) × Int) → Option β) : Option β := (bif ((decide ((0 : Int) ≤ x1)) && (decide (x1 < ((List.length x0) : Int)))) then (bif (decide ((((List.length x5) + (1 : Nat)) * (40 : Nat)) ≤ (35184372088832 : Nat))) then ((s3 x0 x2 x3 x4 (x5 ++ [((elem (Ty.pair (Ty.int IntKind.i64) (Ty.pair (Ty.int IntKind.i64) (Ty.pair (Ty.int IntKind.u64) (Ty.pair Ty.str Ty.unit)))) x0 x1).1, ((elem (Ty.pair (Ty.int IntKind.i64) (Ty.pair (Ty.int IntKind.i64) (Ty.pair (Ty.int IntKind.u64) (Ty.pair Ty.str Ty.unit)))) x0 x1).2.1, ((elem (Ty.pair (Ty.int IntKind.i64) (Ty.pair (Ty.int IntKind.i64) (Ty.pair (Ty.int IntKind.u64) (Ty.pair Ty.str Ty.unit)))) x0 x1).2.2.1, ((elem (Ty.pair (Ty.int IntKind.i64) (Ty.pair (Ty.int IntKind.i64) (Ty.pair (Ty.int IntKind.u64) (Ty.pair Ty.str Ty.unit)))) x0 x1).2.2.2.1, ()))))])).bind ret) else none) else none)
def rows_Pick.s3c {β : Type}  (s0 : (List (Int × (Int × (Int × (ByteArray × Unit))))) → (List Int) → Int → Int → (List (Int × (Int × (Int × (ByteArray × Unit))))) → Option ((List (Int × (Int × (Int × (ByteArray × Unit))))) × Int)) (s1 : (List (Int × (Int × (Int × (ByteArray × Unit))))) → Int → (List Int) → Int → Int → Bool → (List (Int × (Int × (Int × (ByteArray × Unit))))) → Option ((List (Int × (Int × (Int × (ByteArray × Unit))))) × Int)) (s2 : (List (Int × (Int × (Int × (ByteArray × Unit))))) → Int → (List Int) → Int → Int → (List (Int × (Int × (Int × (ByteArray × Unit))))) → Option ((List (Int × (Int × (Int × (ByteArray × Unit))))) × Int)) (s3 : (List (Int × (Int × (Int × (ByteArray × Unit))))) → (List Int) → Int → Int → (List (Int × (Int × (Int × (ByteArray × Unit))))) → Option ((List (Int × (Int × (Int × (ByteArray × Unit))))) × Int)) (x0 : List (Int × (Int × (Int × (ByteArray × Unit))))) (x1 : List Int) (x2 : Int) (x3 : Int) (x4 : List (Int × (Int × (Int × (ByteArray × Unit))))) (ret : ((List (Int × (Int × (Int × (ByteArray × Unit))))) × Int) → Option β) : Option β := ((s0 x0 x1 x2 (IntKind.wrap IntKind.i64 (x3 + (1 : Int))) x4).bind ret)
theorem rows_Pick.c_bind {β : Type}  (s0 : (List (Int × (Int × (Int × (ByteArray × Unit))))) → (List Int) → Int → Int → (List (Int × (Int × (Int × (ByteArray × Unit))))) → Option ((List (Int × (Int × (Int × (ByteArray × Unit))))) × Int)) (s1 : (List (Int × (Int × (Int × (ByteArray × Unit))))) → Int → (List Int) → Int → Int → Bool → (List (Int × (Int × (Int × (ByteArray × Unit))))) → Option ((List (Int × (Int × (Int × (ByteArray × Unit))))) × Int)) (s2 : (List (Int × (Int × (Int × (ByteArray × Unit))))) → Int → (List Int) → Int → Int → (List (Int × (Int × (Int × (ByteArray × Unit))))) → Option ((List (Int × (Int × (Int × (ByteArray × Unit))))) × Int)) (s3 : (List (Int × (Int × (Int × (ByteArray × Unit))))) → (List Int) → Int → Int → (List (Int × (Int × (Int × (ByteArray × Unit))))) → Option ((List (Int × (Int × (Int × (ByteArray × Unit))))) × Int)) (a0 : List (Int × (Int × (Int × (ByteArray × Unit))))) (a1 : List Int) (ret : ((List (Int × (Int × (Int × (ByteArray × Unit))))) × Int) → Option β) : rows_Pick.c  s0 s1 s2 s3 a0 a1 ret = (rows_Pick.c  s0 s1 s2 s3 a0 a1 some).bind ret := by
  simp only [rows_Pick.c, bif_bind, sum_bind, Option.bind_assoc, Option.bind_some, Option.bind_none, Option.bind_fun_some]
theorem rows_Pick.s0c_bind {β : Type}  (s0 : (List (Int × (Int × (Int × (ByteArray × Unit))))) → (List Int) → Int → Int → (List (Int × (Int × (Int × (ByteArray × Unit))))) → Option ((List (Int × (Int × (Int × (ByteArray × Unit))))) × Int)) (s1 : (List (Int × (Int × (Int × (ByteArray × Unit))))) → Int → (List Int) → Int → Int → Bool → (List (Int × (Int × (Int × (ByteArray × Unit))))) → Option ((List (Int × (Int × (Int × (ByteArray × Unit))))) × Int)) (s2 : (List (Int × (Int × (Int × (ByteArray × Unit))))) → Int → (List Int) → Int → Int → (List (Int × (Int × (Int × (ByteArray × Unit))))) → Option ((List (Int × (Int × (Int × (ByteArray × Unit))))) × Int)) (s3 : (List (Int × (Int × (Int × (ByteArray × Unit))))) → (List Int) → Int → Int → (List (Int × (Int × (Int × (ByteArray × Unit))))) → Option ((List (Int × (Int × (Int × (ByteArray × Unit))))) × Int)) (x0 : List (Int × (Int × (Int × (ByteArray × Unit))))) (x1 : List Int) (x2 : Int) (x3 : Int) (x4 : List (Int × (Int × (Int × (ByteArray × Unit))))) (ret : ((List (Int × (Int × (Int × (ByteArray × Unit))))) × Int) → Option β) : rows_Pick.s0c  s0 s1 s2 s3 x0 x1 x2 x3 x4 ret = (rows_Pick.s0c  s0 s1 s2 s3 x0 x1 x2 x3 x4 some).bind ret := by
  simp only [rows_Pick.s0c, bif_bind, sum_bind, Option.bind_assoc, Option.bind_some, Option.bind_none, Option.bind_fun_some]
theorem rows_Pick.s1c_bind {β : Type}  (s0 : (List (Int × (Int × (Int × (ByteArray × Unit))))) → (List Int) → Int → Int → (List (Int × (Int × (Int × (ByteArray × Unit))))) → Option ((List (Int × (Int × (Int × (ByteArray × Unit))))) × Int)) (s1 : (List (Int × (Int × (Int × (ByteArray × Unit))))) → Int → (List Int) → Int → Int → Bool → (List (Int × (Int × (Int × (ByteArray × Unit))))) → Option ((List (Int × (Int × (Int × (ByteArray × Unit))))) × Int)) (s2 : (List (Int × (Int × (Int × (ByteArray × Unit))))) → Int → (List Int) → Int → Int → (List (Int × (Int × (Int × (ByteArray × Unit))))) → Option ((List (Int × (Int × (Int × (ByteArray × Unit))))) × Int)) (s3 : (List (Int × (Int × (Int × (ByteArray × Unit))))) → (List Int) → Int → Int → (List (Int × (Int × (Int × (ByteArray × Unit))))) → Option ((List (Int × (Int × (Int × (ByteArray × Unit))))) × Int)) (x0 : List (Int × (Int × (Int × (ByteArray × Unit))))) (x1 : Int) (x2 : List Int) (x3 : Int) (x4 : Int) (x5 : Bool) (x6 : List (Int × (Int × (Int × (ByteArray × Unit))))) (ret : ((List (Int × (Int × (Int × (ByteArray × Unit))))) × Int) → Option β) : rows_Pick.s1c  s0 s1 s2 s3 x0 x1 x2 x3 x4 x5 x6 ret = (rows_Pick.s1c  s0 s1 s2 s3 x0 x1 x2 x3 x4 x5 x6 some).bind ret := by
  simp only [rows_Pick.s1c, bif_bind, sum_bind, Option.bind_assoc, Option.bind_some, Option.bind_none, Option.bind_fun_some]
theorem rows_Pick.s2c_bind {β : Type}  (s0 : (List (Int × (Int × (Int × (ByteArray × Unit))))) → (List Int) → Int → Int → (List (Int × (Int × (Int × (ByteArray × Unit))))) → Option ((List (Int × (Int × (Int × (ByteArray × Unit))))) × Int)) (s1 : (List (Int × (Int × (Int × (ByteArray × Unit))))) → Int → (List Int) → Int → Int → Bool → (List (Int × (Int × (Int × (ByteArray × Unit))))) → Option ((List (Int × (Int × (Int × (ByteArray × Unit))))) × Int)) (s2 : (List (Int × (Int × (Int × (ByteArray × Unit))))) → Int → (List Int) → Int → Int → (List (Int × (Int × (Int × (ByteArray × Unit))))) → Option ((List (Int × (Int × (Int × (ByteArray × Unit))))) × Int)) (s3 : (List (Int × (Int × (Int × (ByteArray × Unit))))) → (List Int) → Int → Int → (List (Int × (Int × (Int × (ByteArray × Unit))))) → Option ((List (Int × (Int × (Int × (ByteArray × Unit))))) × Int)) (x0 : List (Int × (Int × (Int × (ByteArray × Unit))))) (x1 : Int) (x2 : List Int) (x3 : Int) (x4 : Int) (x5 : List (Int × (Int × (Int × (ByteArray × Unit))))) (ret : ((List (Int × (Int × (Int × (ByteArray × Unit))))) × Int) → Option β) : rows_Pick.s2c  s0 s1 s2 s3 x0 x1 x2 x3 x4 x5 ret = (rows_Pick.s2c  s0 s1 s2 s3 x0 x1 x2 x3 x4 x5 some).bind ret := by
  simp only [rows_Pick.s2c, bif_bind, sum_bind, Option.bind_assoc, Option.bind_some, Option.bind_none, Option.bind_fun_some]
theorem rows_Pick.s3c_bind {β : Type}  (s0 : (List (Int × (Int × (Int × (ByteArray × Unit))))) → (List Int) → Int → Int → (List (Int × (Int × (Int × (ByteArray × Unit))))) → Option ((List (Int × (Int × (Int × (ByteArray × Unit))))) × Int)) (s1 : (List (Int × (Int × (Int × (ByteArray × Unit))))) → Int → (List Int) → Int → Int → Bool → (List (Int × (Int × (Int × (ByteArray × Unit))))) → Option ((List (Int × (Int × (Int × (ByteArray × Unit))))) × Int)) (s2 : (List (Int × (Int × (Int × (ByteArray × Unit))))) → Int → (List Int) → Int → Int → (List (Int × (Int × (Int × (ByteArray × Unit))))) → Option ((List (Int × (Int × (Int × (ByteArray × Unit))))) × Int)) (s3 : (List (Int × (Int × (Int × (ByteArray × Unit))))) → (List Int) → Int → Int → (List (Int × (Int × (Int × (ByteArray × Unit))))) → Option ((List (Int × (Int × (Int × (ByteArray × Unit))))) × Int)) (x0 : List (Int × (Int × (Int × (ByteArray × Unit))))) (x1 : List Int) (x2 : Int) (x3 : Int) (x4 : List (Int × (Int × (Int × (ByteArray × Unit))))) (ret : ((List (Int × (Int × (Int × (ByteArray × Unit))))) × Int) → Option β) : rows_Pick.s3c  s0 s1 s2 s3 x0 x1 x2 x3 x4 ret = (rows_Pick.s3c  s0 s1 s2 s3 x0 x1 x2 x3 x4 some).bind ret := by
  simp only [rows_Pick.s3c, bif_bind, sum_bind, Option.bind_assoc, Option.bind_some, Option.bind_none, Option.bind_fun_some]
theorem rows_Pick.ev  (s0 : (List (Int × (Int × (Int × (ByteArray × Unit))))) → (List Int) → Int → Int → (List (Int × (Int × (Int × (ByteArray × Unit))))) → Option ((List (Int × (Int × (Int × (ByteArray × Unit))))) × Int)) (s1 : (List (Int × (Int × (Int × (ByteArray × Unit))))) → Int → (List Int) → Int → Int → Bool → (List (Int × (Int × (Int × (ByteArray × Unit))))) → Option ((List (Int × (Int × (Int × (ByteArray × Unit))))) × Int)) (s2 : (List (Int × (Int × (Int × (ByteArray × Unit))))) → Int → (List Int) → Int → Int → (List (Int × (Int × (Int × (ByteArray × Unit))))) → Option ((List (Int × (Int × (Int × (ByteArray × Unit))))) × Int)) (s3 : (List (Int × (Int × (Int × (ByteArray × Unit))))) → (List Int) → Int → Int → (List (Int × (Int × (Int × (ByteArray × Unit))))) → Option ((List (Int × (Int × (Int × (ByteArray × Unit))))) × Int)) (a0 : List (Int × (Int × (Int × (ByteArray × Unit))))) (a1 : List Int) : evAt (env_rows_Pick  s0 s1 s2 s3) [] [0, 1] [.v (.one (.d (.sl (.pair (.int .i64) (.pair (.int .i64) (.pair (.int .u64) (.pair .str .unit))))) a0)), .v (.one (.d (.sl (.int .i64)) a1))] [] some = rows_Pick.c  s0 s1 s2 s3 a0 a1 (fun r => some ⟨.tup [(.one (.d (.sl (.pair (.int .i64) (.pair (.int .i64) (.pair (.int .u64) (.pair .str .unit))))) r.1)), (.one (.d (.int .i64) r.2))], []⟩) := by
  kernel_rfl
theorem rows_Pick.s0_ev  (s0 : (List (Int × (Int × (Int × (ByteArray × Unit))))) → (List Int) → Int → Int → (List (Int × (Int × (Int × (ByteArray × Unit))))) → Option ((List (Int × (Int × (Int × (ByteArray × Unit))))) × Int)) (s1 : (List (Int × (Int × (Int × (ByteArray × Unit))))) → Int → (List Int) → Int → Int → Bool → (List (Int × (Int × (Int × (ByteArray × Unit))))) → Option ((List (Int × (Int × (Int × (ByteArray × Unit))))) × Int)) (s2 : (List (Int × (Int × (Int × (ByteArray × Unit))))) → Int → (List Int) → Int → Int → (List (Int × (Int × (Int × (ByteArray × Unit))))) → Option ((List (Int × (Int × (Int × (ByteArray × Unit))))) × Int)) (s3 : (List (Int × (Int × (Int × (ByteArray × Unit))))) → (List Int) → Int → Int → (List (Int × (Int × (Int × (ByteArray × Unit))))) → Option ((List (Int × (Int × (Int × (ByteArray × Unit))))) × Int)) (x0 : List (Int × (Int × (Int × (ByteArray × Unit))))) (x1 : List Int) (x2 : Int) (x3 : Int) (x4 : List (Int × (Int × (Int × (ByteArray × Unit))))) : evAt (env_rows_Pick  s0 s1 s2 s3) [4, 1, 0, 1, 1] [0, 6, 9, 10, 11] [.v (.one (.d (.sl (.pair (.int .i64) (.pair (.int .i64) (.pair (.int .u64) (.pair .str .unit))))) x0)), .v (.one (.own 0)), .v (.one (.d (.sl (.int .i64)) x1)), .v (.one (.d (.int .i64) x2)), .v (.one (.d (.int .i64) x3))] [some (.own (.pair (.int .i64) (.pair (.int .i64) (.pair (.int .u64) (.pair .str .unit)))) false x4)] some = rows_Pick.s0c  s0 s1 s2 s3 x0 x1 x2 x3 x4 (fun r => some ⟨.tup [(.one (.d (.sl (.pair (.int .i64) (.pair (.int .i64) (.pair (.int .u64) (.pair .str .unit))))) r.1)), (.one (.d (.int .i64) r.2))], []⟩) := by
  kernel_rfl
theorem rows_Pick.s1_ev  (s0 : (List (Int × (Int × (Int × (ByteArray × Unit))))) → (List Int) → Int → Int → (List (Int × (Int × (Int × (ByteArray × Unit))))) → Option ((List (Int × (Int × (Int × (ByteArray × Unit))))) × Int)) (s1 : (List (Int × (Int × (Int × (ByteArray × Unit))))) → Int → (List Int) → Int → Int → Bool → (List (Int × (Int × (Int × (ByteArray × Unit))))) → Option ((List (Int × (Int × (Int × (ByteArray × Unit))))) × Int)) (s2 : (List (Int × (Int × (Int × (ByteArray × Unit))))) → Int → (List Int) → Int → Int → (List (Int × (Int × (Int × (ByteArray × Unit))))) → Option ((List (Int × (Int × (Int × (ByteArray × Unit))))) × Int)) (s3 : (List (Int × (Int × (Int × (ByteArray × Unit))))) → (List Int) → Int → Int → (List (Int × (Int × (Int × (ByteArray × Unit))))) → Option ((List (Int × (Int × (Int × (ByteArray × Unit))))) × Int)) (x0 : List (Int × (Int × (Int × (ByteArray × Unit))))) (x1 : Int) (x2 : List Int) (x3 : Int) (x4 : Int) (x5 : Bool) (x6 : List (Int × (Int × (Int × (ByteArray × Unit))))) : evAt (env_rows_Pick  s0 s1 s2 s3) [1, 0, 1, 4, 0, 1, 1, 5, 4, 1, 0, 1, 1] [0, 6, 8, 9, 10, 11, 22] [.v (.one (.d (.sl (.pair (.int .i64) (.pair (.int .i64) (.pair (.int .u64) (.pair .str .unit))))) x0)), .v (.one (.own 0)), .v (.one (.d (.int .i64) x1)), .v (.one (.d (.sl (.int .i64)) x2)), .v (.one (.d (.int .i64) x3)), .v (.one (.d (.int .i64) x4)), .v (.one (.d .bool x5))] [some (.own (.pair (.int .i64) (.pair (.int .i64) (.pair (.int .u64) (.pair .str .unit)))) false x6)] some = rows_Pick.s1c  s0 s1 s2 s3 x0 x1 x2 x3 x4 x5 x6 (fun r => some ⟨.tup [(.one (.d (.sl (.pair (.int .i64) (.pair (.int .i64) (.pair (.int .u64) (.pair .str .unit))))) r.1)), (.one (.d (.int .i64) r.2))], []⟩) := by
  kernel_rfl
theorem rows_Pick.s2_ev  (s0 : (List (Int × (Int × (Int × (ByteArray × Unit))))) → (List Int) → Int → Int → (List (Int × (Int × (Int × (ByteArray × Unit))))) → Option ((List (Int × (Int × (Int × (ByteArray × Unit))))) × Int)) (s1 : (List (Int × (Int × (Int × (ByteArray × Unit))))) → Int → (List Int) → Int → Int → Bool → (List (Int × (Int × (Int × (ByteArray × Unit))))) → Option ((List (Int × (Int × (Int × (ByteArray × Unit))))) × Int)) (s2 : (List (Int × (Int × (Int × (ByteArray × Unit))))) → Int → (List Int) → Int → Int → (List (Int × (Int × (Int × (ByteArray × Unit))))) → Option ((List (Int × (Int × (Int × (ByteArray × Unit))))) × Int)) (s3 : (List (Int × (Int × (Int × (ByteArray × Unit))))) → (List Int) → Int → Int → (List (Int × (Int × (Int × (ByteArray × Unit))))) → Option ((List (Int × (Int × (Int × (ByteArray × Unit))))) × Int)) (x0 : List (Int × (Int × (Int × (ByteArray × Unit))))) (x1 : Int) (x2 : List Int) (x3 : Int) (x4 : Int) (x5 : List (Int × (Int × (Int × (ByteArray × Unit))))) : evAt (env_rows_Pick  s0 s1 s2 s3) [1, 1, 4, 0, 1, 1, 5, 4, 1, 0, 1, 1] [0, 6, 8, 9, 10, 11] [.v (.one (.d (.sl (.pair (.int .i64) (.pair (.int .i64) (.pair (.int .u64) (.pair .str .unit))))) x0)), .v (.one (.own 0)), .v (.one (.d (.int .i64) x1)), .v (.one (.d (.sl (.int .i64)) x2)), .v (.one (.d (.int .i64) x3)), .v (.one (.d (.int .i64) x4))] [some (.own (.pair (.int .i64) (.pair (.int .i64) (.pair (.int .u64) (.pair .str .unit)))) false x5)] some = rows_Pick.s2c  s0 s1 s2 s3 x0 x1 x2 x3 x4 x5 (fun r => some ⟨.tup [(.one (.d (.sl (.pair (.int .i64) (.pair (.int .i64) (.pair (.int .u64) (.pair .str .unit))))) r.1)), (.one (.d (.int .i64) r.2))], []⟩) := by
  kernel_rfl
theorem rows_Pick.s3_ev  (s0 : (List (Int × (Int × (Int × (ByteArray × Unit))))) → (List Int) → Int → Int → (List (Int × (Int × (Int × (ByteArray × Unit))))) → Option ((List (Int × (Int × (Int × (ByteArray × Unit))))) × Int)) (s1 : (List (Int × (Int × (Int × (ByteArray × Unit))))) → Int → (List Int) → Int → Int → Bool → (List (Int × (Int × (Int × (ByteArray × Unit))))) → Option ((List (Int × (Int × (Int × (ByteArray × Unit))))) × Int)) (s2 : (List (Int × (Int × (Int × (ByteArray × Unit))))) → Int → (List Int) → Int → Int → (List (Int × (Int × (Int × (ByteArray × Unit))))) → Option ((List (Int × (Int × (Int × (ByteArray × Unit))))) × Int)) (s3 : (List (Int × (Int × (Int × (ByteArray × Unit))))) → (List Int) → Int → Int → (List (Int × (Int × (Int × (ByteArray × Unit))))) → Option ((List (Int × (Int × (Int × (ByteArray × Unit))))) × Int)) (x0 : List (Int × (Int × (Int × (ByteArray × Unit))))) (x1 : List Int) (x2 : Int) (x3 : Int) (x4 : List (Int × (Int × (Int × (ByteArray × Unit))))) : evAt (env_rows_Pick  s0 s1 s2 s3) [1, 1, 1, 5, 4, 1, 0, 1, 1] [0, 6, 9, 10, 11] [.v (.one (.d (.sl (.pair (.int .i64) (.pair (.int .i64) (.pair (.int .u64) (.pair .str .unit))))) x0)), .v (.one (.own 0)), .v (.one (.d (.sl (.int .i64)) x1)), .v (.one (.d (.int .i64) x2)), .v (.one (.d (.int .i64) x3))] [some (.own (.pair (.int .i64) (.pair (.int .i64) (.pair (.int .u64) (.pair .str .unit)))) false x4)] some = rows_Pick.s3c  s0 s1 s2 s3 x0 x1 x2 x3 x4 (fun r => some ⟨.tup [(.one (.d (.sl (.pair (.int .i64) (.pair (.int .i64) (.pair (.int .u64) (.pair .str .unit))))) r.1)), (.one (.d (.int .i64) r.2))], []⟩) := by
  kernel_rfl
mutual
def rows_Pick.s0 : Nat → (List (Int × (Int × (Int × (ByteArray × Unit))))) → (List Int) → Int → Int → (List (Int × (Int × (Int × (ByteArray × Unit))))) → Option ((List (Int × (Int × (Int × (ByteArray × Unit))))) × Int)
  | 0, _, _, _, _, _ => none
  | k + 1, x0, x1, x2, x3, x4 => rows_Pick.s0c  (rows_Pick.s0 k) (rows_Pick.s1 k) (rows_Pick.s2 k) (rows_Pick.s3 k) x0 x1 x2 x3 x4 some
def rows_Pick.s1 : Nat → (List (Int × (Int × (Int × (ByteArray × Unit))))) → Int → (List Int) → Int → Int → Bool → (List (Int × (Int × (Int × (ByteArray × Unit))))) → Option ((List (Int × (Int × (Int × (ByteArray × Unit))))) × Int)
  | 0, _, _, _, _, _, _, _ => none
  | k + 1, x0, x1, x2, x3, x4, x5, x6 => rows_Pick.s1c  (rows_Pick.s0 k) (rows_Pick.s1 k) (rows_Pick.s2 k) (rows_Pick.s3 k) x0 x1 x2 x3 x4 x5 x6 some
def rows_Pick.s2 : Nat → (List (Int × (Int × (Int × (ByteArray × Unit))))) → Int → (List Int) → Int → Int → (List (Int × (Int × (Int × (ByteArray × Unit))))) → Option ((List (Int × (Int × (Int × (ByteArray × Unit))))) × Int)
  | 0, _, _, _, _, _, _ => none
  | k + 1, x0, x1, x2, x3, x4, x5 => rows_Pick.s2c  (rows_Pick.s0 k) (rows_Pick.s1 k) (rows_Pick.s2 k) (rows_Pick.s3 k) x0 x1 x2 x3 x4 x5 some
def rows_Pick.s3 : Nat → (List (Int × (Int × (Int × (ByteArray × Unit))))) → (List Int) → Int → Int → (List (Int × (Int × (Int × (ByteArray × Unit))))) → Option ((List (Int × (Int × (Int × (ByteArray × Unit))))) × Int)
  | 0, _, _, _, _, _ => none
  | k + 1, x0, x1, x2, x3, x4 => rows_Pick.s3c  (rows_Pick.s0 k) (rows_Pick.s1 k) (rows_Pick.s2 k) (rows_Pick.s3 k) x0 x1 x2 x3 x4 some
end
def rows_Pick.f (k : Nat) (a0 : List (Int × (Int × (Int × (ByteArray × Unit))))) (a1 : List Int) : Option ((List (Int × (Int × (Int × (ByteArray × Unit))))) × Int) := rows_Pick.c  (rows_Pick.s0 k) (rows_Pick.s1 k) (rows_Pick.s2 k) (rows_Pick.s3 k) a0 a1 some
theorem rows_Pick.is  (s0 : (List (Int × (Int × (Int × (ByteArray × Unit))))) → (List Int) → Int → Int → (List (Int × (Int × (Int × (ByteArray × Unit))))) → Option ((List (Int × (Int × (Int × (ByteArray × Unit))))) × Int)) (s1 : (List (Int × (Int × (Int × (ByteArray × Unit))))) → Int → (List Int) → Int → Int → Bool → (List (Int × (Int × (Int × (ByteArray × Unit))))) → Option ((List (Int × (Int × (Int × (ByteArray × Unit))))) × Int)) (s2 : (List (Int × (Int × (Int × (ByteArray × Unit))))) → Int → (List Int) → Int → Int → (List (Int × (Int × (Int × (ByteArray × Unit))))) → Option ((List (Int × (Int × (Int × (ByteArray × Unit))))) × Int)) (s3 : (List (Int × (Int × (Int × (ByteArray × Unit))))) → (List Int) → Int → Int → (List (Int × (Int × (Int × (ByteArray × Unit))))) → Option ((List (Int × (Int × (Int × (ByteArray × Unit))))) × Int)) : FnIs (env_rows_Pick  s0 s1 s2 s3) 15 Go.Proofs.Try.f15 := ⟨Go.Proofs.Try.func15, rfl, rfl, rfl, by decide⟩
theorem rows_Pick.envok  (s0 : (List (Int × (Int × (Int × (ByteArray × Unit))))) → (List Int) → Int → Int → (List (Int × (Int × (Int × (ByteArray × Unit))))) → Option ((List (Int × (Int × (Int × (ByteArray × Unit))))) × Int)) (s1 : (List (Int × (Int × (Int × (ByteArray × Unit))))) → Int → (List Int) → Int → Int → Bool → (List (Int × (Int × (Int × (ByteArray × Unit))))) → Option ((List (Int × (Int × (Int × (ByteArray × Unit))))) × Int)) (s2 : (List (Int × (Int × (Int × (ByteArray × Unit))))) → Int → (List Int) → Int → Int → (List (Int × (Int × (Int × (ByteArray × Unit))))) → Option ((List (Int × (Int × (Int × (ByteArray × Unit))))) × Int)) (s3 : (List (Int × (Int × (Int × (ByteArray × Unit))))) → (List Int) → Int → Int → (List (Int × (Int × (Int × (ByteArray × Unit))))) → Option ((List (Int × (Int × (Int × (ByteArray × Unit))))) × Int))  : EnvOK (env_rows_Pick  s0 s1 s2 s3).toEnv := by
  intro f c h
  simp only [env_rows_Pick] at h
  simp at h
theorem rows_Pick.segs_ok : ∀ k, ∀ s ∈ (env_rows_Pick  (rows_Pick.s0 k) (rows_Pick.s1 k) (rows_Pick.s2 k) (rows_Pick.s3 k)).segs, SegOK (env_rows_Pick  (rows_Pick.s0 k) (rows_Pick.s1 k) (rows_Pick.s2 k) (rows_Pick.s3 k)) Go.Proofs.Try.f15 s
  | 0 => by
    intro s hs
    simp only [env_rows_Pick, List.mem_cons, List.not_mem_nil, or_false] at hs
    rcases hs with rfl | rfl | rfl | rfl
    · intro tvs blks res h; exfalso; simp only [seg_rows_Pick_0] at h; split at h <;> simp [rows_Pick.s0] at h
    · intro tvs blks res h; exfalso; simp only [seg_rows_Pick_1] at h; split at h <;> simp [rows_Pick.s1] at h
    · intro tvs blks res h; exfalso; simp only [seg_rows_Pick_2] at h; split at h <;> simp [rows_Pick.s2] at h
    · intro tvs blks res h; exfalso; simp only [seg_rows_Pick_3] at h; split at h <;> simp [rows_Pick.s3] at h
  | k + 1 => by
    have ih := rows_Pick.segs_ok k
    intro s hs
    simp only [env_rows_Pick, List.mem_cons, List.not_mem_nil, or_false] at hs
    rcases hs with rfl | rfl | rfl | rfl
    · refine seg_of_ev (E := env_rows_Pick  (rows_Pick.s0 k) (rows_Pick.s1 k) (rows_Pick.s2 k) (rows_Pick.s3 k)) (rows_Pick.envok _ _ _ _  ) ⟨(rows_Pick.is  (rows_Pick.s0 k) (rows_Pick.s1 k) (rows_Pick.s2 k) (rows_Pick.s3 k)).rvs⟩ ih ?_
      intro tvs blks res h
      simp only [seg_rows_Pick_0] at h
      split at h
      · refine (rows_Pick.s0_ev  (rows_Pick.s0 k) (rows_Pick.s1 k) (rows_Pick.s2 k) (rows_Pick.s3 k) _ _ _ _ _ ).trans ?_
        rw [rows_Pick.s0c_bind]
        exact h
      · simp at h
    · refine seg_of_ev (E := env_rows_Pick  (rows_Pick.s0 k) (rows_Pick.s1 k) (rows_Pick.s2 k) (rows_Pick.s3 k)) (rows_Pick.envok _ _ _ _  ) ⟨(rows_Pick.is  (rows_Pick.s0 k) (rows_Pick.s1 k) (rows_Pick.s2 k) (rows_Pick.s3 k)).rvs⟩ ih ?_
      intro tvs blks res h
      simp only [seg_rows_Pick_1] at h
      split at h
      · refine (rows_Pick.s1_ev  (rows_Pick.s0 k) (rows_Pick.s1 k) (rows_Pick.s2 k) (rows_Pick.s3 k) _ _ _ _ _ _ _ ).trans ?_
        rw [rows_Pick.s1c_bind]
        exact h
      · simp at h
    · refine seg_of_ev (E := env_rows_Pick  (rows_Pick.s0 k) (rows_Pick.s1 k) (rows_Pick.s2 k) (rows_Pick.s3 k)) (rows_Pick.envok _ _ _ _  ) ⟨(rows_Pick.is  (rows_Pick.s0 k) (rows_Pick.s1 k) (rows_Pick.s2 k) (rows_Pick.s3 k)).rvs⟩ ih ?_
      intro tvs blks res h
      simp only [seg_rows_Pick_2] at h
      split at h
      · refine (rows_Pick.s2_ev  (rows_Pick.s0 k) (rows_Pick.s1 k) (rows_Pick.s2 k) (rows_Pick.s3 k) _ _ _ _ _ _ ).trans ?_
        rw [rows_Pick.s2c_bind]
        exact h
      · simp at h
    · refine seg_of_ev (E := env_rows_Pick  (rows_Pick.s0 k) (rows_Pick.s1 k) (rows_Pick.s2 k) (rows_Pick.s3 k)) (rows_Pick.envok _ _ _ _  ) ⟨(rows_Pick.is  (rows_Pick.s0 k) (rows_Pick.s1 k) (rows_Pick.s2 k) (rows_Pick.s3 k)).rvs⟩ ih ?_
      intro tvs blks res h
      simp only [seg_rows_Pick_3] at h
      split at h
      · refine (rows_Pick.s3_ev  (rows_Pick.s0 k) (rows_Pick.s1 k) (rows_Pick.s2 k) (rows_Pick.s3 k) _ _ _ _ _ ).trans ?_
        rw [rows_Pick.s3c_bind]
        exact h
      · simp at h
theorem rows_Pick.ok (k : Nat) : CtOK Go.Proofs.Try.prog 15 (ct_rows_Pick (rows_Pick.f k)) := by
  refine ct_of_ev (E := env_rows_Pick  (rows_Pick.s0 k) (rows_Pick.s1 k) (rows_Pick.s2 k) (rows_Pick.s3 k)) (rows_Pick.is _ _ _ _ ) (rows_Pick.envok _ _ _ _  ) (rows_Pick.segs_ok k) rfl ?_
  intro tvs blks res h
  simp only [ct_rows_Pick] at h
  split at h
  · refine (rows_Pick.ev  (rows_Pick.s0 k) (rows_Pick.s1 k) (rows_Pick.s2 k) (rows_Pick.s3 k) _ _ ).trans ?_
    rw [rows_Pick.c_bind]
    exact h
  · simp at h

/-! ### values_Same: function 33 -/
def ct_values_Same (g : Int → Int → Int → ByteArray → Int → Int → Int → ByteArray → Option Bool) : Ct where
  nin := 0
  mv := []
  F := fun tvs blks {β} K => match tvs, blks with
    | [.v (.agg [(.d (.int .i64) a0), (.d (.int .i64) a1), (.d (.int .u64) a2), (.d .str a3)]), .v (.agg [(.d (.int .i64) a4), (.d (.int .i64) a5), (.d (.int .u64) a6), (.d .str a7)])], [] => (g a0 a1 a2 a3 a4 a5 a6 a7).bind fun r => K ⟨.v (.one (.d .bool r)), []⟩
    | _, _ => none
  legit := fun tvs blks K r h => by
    split at h
    · obtain ⟨x, hx, hk⟩ := Option.bind_eq_some_iff.1 h
      refine ⟨_, ?_, hk⟩
      simp only [hx, Option.bind_some]
    · simp at h
noncomputable def env_values_Same   : FEnv := { P := Go.Proofs.Try.prog, ct := fun m => none, N := 8, body := Go.Proofs.Try.f33.body.getD .skip, rvs := [.tmp 4], rts := [4], nin := 0, rmv := [], segs := [] }
def values_Same.c {β : Type}   (a0 : Int) (a1 : Int) (a2 : Int) (a3 : ByteArray) (a4 : Int) (a5 : Int) (a6 : Int) (a7 : ByteArray) (ret : Bool → Option β) : Option β := (ret (((a0 == a4) && ((a1 == a5) && ((a2 == a6) && (((ByteArray.toList a3) == (ByteArray.toList a7)) && true))))))
theorem values_Same.c_bind {β : Type}   (a0 : Int) (a1 : Int) (a2 : Int) (a3 : ByteArray) (a4 : Int) (a5 : Int) (a6 : Int) (a7 : ByteArray) (ret : Bool → Option β) : values_Same.c   a0 a1 a2 a3 a4 a5 a6 a7 ret = (values_Same.c   a0 a1 a2 a3 a4 a5 a6 a7 some).bind ret := by
  simp only [values_Same.c, bif_bind, sum_bind, Option.bind_assoc, Option.bind_some, Option.bind_none, Option.bind_fun_some]
theorem values_Same.ev   (a0 : Int) (a1 : Int) (a2 : Int) (a3 : ByteArray) (a4 : Int) (a5 : Int) (a6 : Int) (a7 : ByteArray) : evAt (env_values_Same  ) [] [0, 1] [.v (.agg [(.d (.int .i64) a0), (.d (.int .i64) a1), (.d (.int .u64) a2), (.d .str a3)]), .v (.agg [(.d (.int .i64) a4), (.d (.int .i64) a5), (.d (.int .u64) a6), (.d .str a7)])] [] some = values_Same.c   a0 a1 a2 a3 a4 a5 a6 a7 (fun r => some ⟨.v (.one (.d .bool r)), []⟩) := by
  kernel_rfl
def values_Same.f (k : Nat) (a0 : Int) (a1 : Int) (a2 : Int) (a3 : ByteArray) (a4 : Int) (a5 : Int) (a6 : Int) (a7 : ByteArray) : Option Bool := values_Same.c   a0 a1 a2 a3 a4 a5 a6 a7 some
theorem values_Same.is   : FnIs (env_values_Same  ) 33 Go.Proofs.Try.f33 := ⟨Go.Proofs.Try.func33, rfl, rfl, rfl, by decide⟩
theorem values_Same.envok    : EnvOK (env_values_Same  ).toEnv := by
  intro f c h
  simp only [env_values_Same] at h
  simp at h
theorem values_Same.ok (k : Nat) : CtOK Go.Proofs.Try.prog 33 (ct_values_Same (values_Same.f k)) := by
  refine ct_of_ev (E := env_values_Same  ) (values_Same.is ) (values_Same.envok  ) (fun s hs => by simp [env_values_Same] at hs) rfl ?_
  intro tvs blks res h
  simp only [ct_values_Same] at h
  split at h
  · refine (values_Same.ev   _ _ _ _ _ _ _ _ ).trans ?_
    rw [values_Same.c_bind]
    exact h
  · simp at h

/-! ### cmp_Or_int: function 55 -/
def ct_cmp_Or_int (g : (List Int) → Option Int) : Ct where
  nin := 0
  mv := []
  F := fun tvs blks {β} K => match tvs, blks with
    | [.v (.one (.d (.sl (.int .i64)) a0))], [] => (g a0).bind fun r => K ⟨.v (.one (.d (.int .i64) r)), []⟩
    | _, _ => none
  legit := fun tvs blks K r h => by
    split at h
    · obtain ⟨x, hx, hk⟩ := Option.bind_eq_some_iff.1 h
      refine ⟨_, ?_, hk⟩
      simp only [hx, Option.bind_some]
    · simp at h
def seg_cmp_Or_int_0 (g : Int → (List Int) → Int → Int → Option Int) : Seg where
  path := [4, 1, 0, 1, 1]
  prep := []
  keep := [3, 6, 7, 8]
  F := fun tvs blks {β} K => match tvs, blks with
    | [.v (.one (.d (.int .i64) x0)), .v (.one (.d (.sl (.int .i64)) x1)), .v (.one (.d (.int .i64) x2)), .v (.one (.d (.int .i64) x3))], [] => (g x0 x1 x2 x3).bind fun r => K ⟨.v (.one (.d (.int .i64) r)), []⟩
    | _, _ => none
  legit := fun tvs blks K r h => by
    split at h
    · obtain ⟨x, hx, hk⟩ := Option.bind_eq_some_iff.1 h
      refine ⟨_, ?_, hk⟩
      simp only [hx, Option.bind_some]
    · simp at h
noncomputable def env_cmp_Or_int  (s0 : Int → (List Int) → Int → Int → Option Int) : FEnv := { P := Go.Proofs.Try.prog, ct := fun m => none, N := 18, body := Go.Proofs.Try.f55.body.getD .skip, rvs := [.tmp 2], rts := [3], nin := 0, rmv := [], segs := [seg_cmp_Or_int_0 s0] }
def cmp_Or_int.c {β : Type}  (s0 : Int → (List Int) → Int → Int → Option Int) (a0 : List Int) (ret : Int → Option β) : Option β := ((s0 (0 : Int) a0 ((List.length a0) : Int) (0 : Int)).bind ret)
def cmp_Or_int.s0c {β : Type}  (s0 : Int → (List Int) → Int → Int → Option Int) (x0 : Int) (x1 : List Int) (x2 : Int) (x3 : Int) (ret : Int → Option β) : Option β := (bif (decide (x3 < x2)) then (bif ((decide ((0 : Int) ≤ x3)) && (decide (x3 < ((List.length x1) : Int)))) then (bif ((elem (Ty.int IntKind.i64) x1 x3) != x0) then (ret ((elem (Ty.int IntKind.i64) x1 x3))) else ((s0 x0 x1 x2 (IntKind.wrap IntKind.i64 (x3 + (1 : Int)))).bind ret)) else none) else (ret (x0)))
theorem cmp_Or_int.c_bind {β : Type}  (s0 : Int → (List Int) → Int → Int → Option Int) (a0 : List Int) (ret : Int → Option β) : cmp_Or_int.c  s0 a0 ret = (cmp_Or_int.c  s0 a0 some).bind ret := by
  simp only [cmp_Or_int.c, bif_bind, sum_bind, Option.bind_assoc, Option.bind_some, Option.bind_none, Option.bind_fun_some]
theorem cmp_Or_int.s0c_bind {β : Type}  (s0 : Int → (List Int) → Int → Int → Option Int) (x0 : Int) (x1 : List Int) (x2 : Int) (x3 : Int) (ret : Int → Option β) : cmp_Or_int.s0c  s0 x0 x1 x2 x3 ret = (cmp_Or_int.s0c  s0 x0 x1 x2 x3 some).bind ret := by
  simp only [cmp_Or_int.s0c, bif_bind, sum_bind, Option.bind_assoc, Option.bind_some, Option.bind_none, Option.bind_fun_some]
theorem cmp_Or_int.ev  (s0 : Int → (List Int) → Int → Int → Option Int) (a0 : List Int) : evAt (env_cmp_Or_int  s0) [] [0] [.v (.one (.d (.sl (.int .i64)) a0))] [] some = cmp_Or_int.c  s0 a0 (fun r => some ⟨.v (.one (.d (.int .i64) r)), []⟩) := by
  kernel_rfl
theorem cmp_Or_int.s0_ev  (s0 : Int → (List Int) → Int → Int → Option Int) (x0 : Int) (x1 : List Int) (x2 : Int) (x3 : Int) : evAt (env_cmp_Or_int  s0) [4, 1, 0, 1, 1] [3, 6, 7, 8] [.v (.one (.d (.int .i64) x0)), .v (.one (.d (.sl (.int .i64)) x1)), .v (.one (.d (.int .i64) x2)), .v (.one (.d (.int .i64) x3))] [] some = cmp_Or_int.s0c  s0 x0 x1 x2 x3 (fun r => some ⟨.v (.one (.d (.int .i64) r)), []⟩) := by
  kernel_rfl
def cmp_Or_int.s0 : Nat → Int → (List Int) → Int → Int → Option Int
  | 0, _, _, _, _ => none
  | k + 1, x0, x1, x2, x3 => cmp_Or_int.s0c  (cmp_Or_int.s0 k) x0 x1 x2 x3 some
def cmp_Or_int.f (k : Nat) (a0 : List Int) : Option Int := cmp_Or_int.c  (cmp_Or_int.s0 k) a0 some
theorem cmp_Or_int.is  (s0 : Int → (List Int) → Int → Int → Option Int) : FnIs (env_cmp_Or_int  s0) 55 Go.Proofs.Try.f55 := ⟨Go.Proofs.Try.func55, rfl, rfl, rfl, by decide⟩
theorem cmp_Or_int.envok  (s0 : Int → (List Int) → Int → Int → Option Int)  : EnvOK (env_cmp_Or_int  s0).toEnv := by
  intro f c h
  simp only [env_cmp_Or_int] at h
  simp at h
theorem cmp_Or_int.segs_ok : ∀ k, ∀ s ∈ (env_cmp_Or_int  (cmp_Or_int.s0 k)).segs, SegOK (env_cmp_Or_int  (cmp_Or_int.s0 k)) Go.Proofs.Try.f55 s
  | 0 => by
    intro s hs
    simp only [env_cmp_Or_int, List.mem_cons, List.not_mem_nil, or_false] at hs
    rcases hs with rfl
    · intro tvs blks res h; exfalso; simp only [seg_cmp_Or_int_0] at h; split at h <;> simp [cmp_Or_int.s0] at h
  | k + 1 => by
    have ih := cmp_Or_int.segs_ok k
    intro s hs
    simp only [env_cmp_Or_int, List.mem_cons, List.not_mem_nil, or_false] at hs
    rcases hs with rfl
    · refine seg_of_ev (E := env_cmp_Or_int  (cmp_Or_int.s0 k)) (cmp_Or_int.envok _  ) ⟨(cmp_Or_int.is  (cmp_Or_int.s0 k)).rvs⟩ ih ?_
      intro tvs blks res h
      simp only [seg_cmp_Or_int_0] at h
      split at h
      · refine (cmp_Or_int.s0_ev  (cmp_Or_int.s0 k) _ _ _ _ ).trans ?_
        rw [cmp_Or_int.s0c_bind]
        exact h
      · simp at h
theorem cmp_Or_int.ok (k : Nat) : CtOK Go.Proofs.Try.prog 55 (ct_cmp_Or_int (cmp_Or_int.f k)) := by
  refine ct_of_ev (E := env_cmp_Or_int  (cmp_Or_int.s0 k)) (cmp_Or_int.is _ ) (cmp_Or_int.envok _  ) (cmp_Or_int.segs_ok k) rfl ?_
  intro tvs blks res h
  simp only [ct_cmp_Or_int] at h
  split at h
  · refine (cmp_Or_int.ev  (cmp_Or_int.s0 k) _ ).trans ?_
    rw [cmp_Or_int.c_bind]
    exact h
  · simp at h

/-! ### cmp_isNaN_int: function 65 -/
def ct_cmp_isNaN_int (g : Int → Option Bool) : Ct where
  nin := 0
  mv := []
  F := fun tvs blks {β} K => match tvs, blks with
    | [.v (.one (.d (.int .i64) a0))], [] => (g a0).bind fun r => K ⟨.v (.one (.d .bool r)), []⟩
    | _, _ => none
  legit := fun tvs blks K r h => by
    split at h
    · obtain ⟨x, hx, hk⟩ := Option.bind_eq_some_iff.1 h
      refine ⟨_, ?_, hk⟩
      simp only [hx, Option.bind_some]
    · simp at h
noncomputable def env_cmp_isNaN_int   : FEnv := { P := Go.Proofs.Try.prog, ct := fun m => none, N := 6, body := Go.Proofs.Try.f65.body.getD .skip, rvs := [.tmp 2], rts := [4], nin := 0, rmv := [], segs := [] }
def cmp_isNaN_int.c {β : Type}   (a0 : Int) (ret : Bool → Option β) : Option β := (ret ((a0 != a0)))
theorem cmp_isNaN_int.c_bind {β : Type}   (a0 : Int) (ret : Bool → Option β) : cmp_isNaN_int.c   a0 ret = (cmp_isNaN_int.c   a0 some).bind ret := by
  simp only [cmp_isNaN_int.c, bif_bind, sum_bind, Option.bind_assoc, Option.bind_some, Option.bind_none, Option.bind_fun_some]
theorem cmp_isNaN_int.ev   (a0 : Int) : evAt (env_cmp_isNaN_int  ) [] [0] [.v (.one (.d (.int .i64) a0))] [] some = cmp_isNaN_int.c   a0 (fun r => some ⟨.v (.one (.d .bool r)), []⟩) := by
  kernel_rfl
def cmp_isNaN_int.f (k : Nat) (a0 : Int) : Option Bool := cmp_isNaN_int.c   a0 some
theorem cmp_isNaN_int.is   : FnIs (env_cmp_isNaN_int  ) 65 Go.Proofs.Try.f65 := ⟨Go.Proofs.Try.func65, rfl, rfl, rfl, by decide⟩
theorem cmp_isNaN_int.envok    : EnvOK (env_cmp_isNaN_int  ).toEnv := by
  intro f c h
  simp only [env_cmp_isNaN_int] at h
  simp at h
theorem cmp_isNaN_int.ok (k : Nat) : CtOK Go.Proofs.Try.prog 65 (ct_cmp_isNaN_int (cmp_isNaN_int.f k)) := by
  refine ct_of_ev (E := env_cmp_isNaN_int  ) (cmp_isNaN_int.is ) (cmp_isNaN_int.envok  ) (fun s hs => by simp [env_cmp_isNaN_int] at hs) rfl ?_
  intro tvs blks res h
  simp only [ct_cmp_isNaN_int] at h
  split at h
  · refine (cmp_isNaN_int.ev   _ ).trans ?_
    rw [cmp_isNaN_int.c_bind]
    exact h
  · simp at h

/-! ### cmp_Compare_int: function 56 -/
def ct_cmp_Compare_int (g : Int → Int → Option Int) : Ct where
  nin := 0
  mv := []
  F := fun tvs blks {β} K => match tvs, blks with
    | [.v (.one (.d (.int .i64) a0)), .v (.one (.d (.int .i64) a1))], [] => (g a0 a1).bind fun r => K ⟨.v (.one (.d (.int .i64) r)), []⟩
    | _, _ => none
  legit := fun tvs blks K r h => by
    split at h
    · obtain ⟨x, hx, hk⟩ := Option.bind_eq_some_iff.1 h
      refine ⟨_, ?_, hk⟩
      simp only [hx, Option.bind_some]
    · simp at h
noncomputable def env_cmp_Compare_int (g65 : Int → Option Bool)  : FEnv := { P := Go.Proofs.Try.prog, ct := fun m => if m = 65 then some (ct_cmp_isNaN_int g65) else none, N := 20, body := Go.Proofs.Try.f56.body.getD .skip, rvs := [.tmp 4], rts := [3], nin := 0, rmv := [], segs := [] }
def cmp_Compare_int.c {β : Type} (g65 : Int → Option Bool)  (a0 : Int) (a1 : Int) (ret : Int → Option β) : Option β := ((g65 a0).bind fun r0 => ((g65 a1).bind fun r1 => (bif r0 then (bif r1 then (ret ((0 : Int))) else (ret ((-1 : Int)))) else (bif r1 then (ret ((1 : Int))) else (bif (decide (a0 < a1)) then (ret ((-1 : Int))) else (bif (decide (a0 > a1)) then (ret ((1 : Int))) else (ret ((0 : Int)))))))))
theorem cmp_Compare_int.c_bind {β : Type} (g65 : Int → Option Bool)  (a0 : Int) (a1 : Int) (ret : Int → Option β) : cmp_Compare_int.c g65  a0 a1 ret = (cmp_Compare_int.c g65  a0 a1 some).bind ret := by
  simp only [cmp_Compare_int.c, bif_bind, sum_bind, Option.bind_assoc, Option.bind_some, Option.bind_none, Option.bind_fun_some]
theorem cmp_Compare_int.ev (g65 : Int → Option Bool)  (a0 : Int) (a1 : Int) : evAt (env_cmp_Compare_int g65 ) [] [0, 1] [.v (.one (.d (.int .i64) a0)), .v (.one (.d (.int .i64) a1))] [] some = cmp_Compare_int.c g65  a0 a1 (fun r => some ⟨.v (.one (.d (.int .i64) r)), []⟩) := by
  kernel_rfl
def cmp_Compare_int.f (k : Nat) (a0 : Int) (a1 : Int) : Option Int := cmp_Compare_int.c (cmp_isNaN_int.f k)  a0 a1 some
theorem cmp_Compare_int.is (g65 : Int → Option Bool)  : FnIs (env_cmp_Compare_int g65 ) 56 Go.Proofs.Try.f56 := ⟨Go.Proofs.Try.func56, rfl, rfl, rfl, by decide⟩
theorem cmp_Compare_int.envok (g65 : Int → Option Bool)  (h65 : CtOK Go.Proofs.Try.prog 65 (ct_cmp_isNaN_int g65)) : EnvOK (env_cmp_Compare_int g65 ).toEnv := by
  intro f c h
  simp only [env_cmp_Compare_int] at h
  split at h
  · rename_i e; subst e; cases h; exact h65
  simp at h
theorem cmp_Compare_int.ok (k : Nat) : CtOK Go.Proofs.Try.prog 56 (ct_cmp_Compare_int (cmp_Compare_int.f k)) := by
  refine ct_of_ev (E := env_cmp_Compare_int (cmp_isNaN_int.f k) ) (cmp_Compare_int.is _ ) (cmp_Compare_int.envok _  (cmp_isNaN_int.ok k)) (fun s hs => by simp [env_cmp_Compare_int] at hs) rfl ?_
  intro tvs blks res h
  simp only [ct_cmp_Compare_int] at h
  split at h
  · refine (cmp_Compare_int.ev (cmp_isNaN_int.f k)  _ _ ).trans ?_
    rw [cmp_Compare_int.c_bind]
    exact h
  · simp at h
end Go.Proofs.Ytlclhjdfbkenfaa.Aev
