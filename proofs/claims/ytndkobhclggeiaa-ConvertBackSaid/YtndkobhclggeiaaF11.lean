/- By a program of this session (AEV): functions of the program as plain functions, and that the machine does what they say. -/
import Derived.Test.YtndkobhclggeiaaAevW
import Derived.Test.YtndkobhclggeiaaProg
import Derived.Laws.Externs
import Derived.Lib.Bytealg
import Derived.Test.YtndkobhclggeiaaF9
namespace Go.Proofs.Ytndkobhclggeiaa.Aev
set_option linter.unusedVariables false
set_option linter.unusedSimpArgs false
set_option maxRecDepth 100000
set_option maxHeartbeats 4000000
open Go
/-! ### transomref07_Number: function 15 -/
def ct_transomref07_Number (g : ByteArray → Option (Int × Int)) : Ct where
  nin := 0
  mv := []
  F := fun tvs blks {β} K => match tvs, blks with
    | [.v (.one (.d .str a0))], [] => (g a0).bind fun r => K ⟨.tup [(.one (.d (.int .i64) r.1)), (.one (.d (.int .i64) r.2))], []⟩
    | _, _ => none
  legit := fun tvs blks K r h => by
    split at h
    · obtain ⟨x, hx, hk⟩ := Option.bind_eq_some_iff.1 h
      refine ⟨_, ?_, hk⟩
      simp only [hx, Option.bind_some]
    · simp at h
def seg_transomref07_Number_0 (g : ByteArray → Int → Int → Bool → Option (Int × Int)) : Seg where
  path := [1, 0, 1, 1, 1]
  prep := []
  keep := [0, 4, 5, 14]
  F := fun tvs blks {β} K => match tvs, blks with
    | [.v (.one (.d .str x0)), .v (.one (.d (.int .i64) x1)), .v (.one (.d (.int .i64) x2)), .v (.one (.d .bool x3))], [] => (g x0 x1 x2 x3).bind fun r => K ⟨.tup [(.one (.d (.int .i64) r.1)), (.one (.d (.int .i64) r.2))], []⟩
    | _, _ => none
  legit := fun tvs blks K r h => by
    split at h
    · obtain ⟨x, hx, hk⟩ := Option.bind_eq_some_iff.1 h
      refine ⟨_, ?_, hk⟩
      simp only [hx, Option.bind_some]
    · simp at h
def seg_transomref07_Number_1 (g : ByteArray → Int → Int → Option (Int × Int)) : Seg where
  path := [1, 1, 1, 1]
  prep := []
  keep := [0, 4, 5]
  F := fun tvs blks {β} K => match tvs, blks with
    | [.v (.one (.d .str x0)), .v (.one (.d (.int .i64) x1)), .v (.one (.d (.int .i64) x2))], [] => (g x0 x1 x2).bind fun r => K ⟨.tup [(.one (.d (.int .i64) r.1)), (.one (.d (.int .i64) r.2))], []⟩
    | _, _ => none
  legit := fun tvs blks K r h => by
    split at h
    · obtain ⟨x, hx, hk⟩ := Option.bind_eq_some_iff.1 h
      refine ⟨_, ?_, hk⟩
      simp only [hx, Option.bind_some]
    · simp at h
def seg_transomref07_Number_2 (g : ByteArray → Int → Int → Int → Option (Int × Int)) : Seg where
  path := [4, 1, 0, 1, 1, 1, 1, 1]
  prep := []
  keep := [0, 4, 5, 6]
  F := fun tvs blks {β} K => match tvs, blks with
    | [.v (.one (.d .str x0)), .v (.one (.d (.int .i64) x1)), .v (.one (.d (.int .i64) x2)), .v (.one (.d (.int .i64) x3))], [] => (g x0 x1 x2 x3).bind fun r => K ⟨.tup [(.one (.d (.int .i64) r.1)), (.one (.d (.int .i64) r.2))], []⟩
    | _, _ => none
  legit := fun tvs blks K r h => by
    split at h
    · obtain ⟨x, hx, hk⟩ := Option.bind_eq_some_iff.1 h
      refine ⟨_, ?_, hk⟩
      simp only [hx, Option.bind_some]
    · simp at h
def seg_transomref07_Number_3 (g : ByteArray → Int → Int → Int → Bool → Option (Int × Int)) : Seg where
  path := [1, 0, 4, 0, 1, 5, 4, 1, 0, 1, 1, 1, 1, 1]
  prep := []
  keep := [0, 4, 5, 6, 34]
  F := fun tvs blks {β} K => match tvs, blks with
    | [.v (.one (.d .str x0)), .v (.one (.d (.int .i64) x1)), .v (.one (.d (.int .i64) x2)), .v (.one (.d (.int .i64) x3)), .v (.one (.d .bool x4))], [] => (g x0 x1 x2 x3 x4).bind fun r => K ⟨.tup [(.one (.d (.int .i64) r.1)), (.one (.d (.int .i64) r.2))], []⟩
    | _, _ => none
  legit := fun tvs blks K r h => by
    split at h
    · obtain ⟨x, hx, hk⟩ := Option.bind_eq_some_iff.1 h
      refine ⟨_, ?_, hk⟩
      simp only [hx, Option.bind_some]
    · simp at h
def seg_transomref07_Number_4 (g : ByteArray → Int → Int → Int → Option (Int × Int)) : Seg where
  path := [1, 4, 0, 1, 5, 4, 1, 0, 1, 1, 1, 1, 1]
  prep := []
  keep := [0, 4, 5, 6]
  F := fun tvs blks {β} K => match tvs, blks with
    | [.v (.one (.d .str x0)), .v (.one (.d (.int .i64) x1)), .v (.one (.d (.int .i64) x2)), .v (.one (.d (.int .i64) x3))], [] => (g x0 x1 x2 x3).bind fun r => K ⟨.tup [(.one (.d (.int .i64) r.1)), (.one (.d (.int .i64) r.2))], []⟩
    | _, _ => none
  legit := fun tvs blks K r h => by
    split at h
    · obtain ⟨x, hx, hk⟩ := Option.bind_eq_some_iff.1 h
      refine ⟨_, ?_, hk⟩
      simp only [hx, Option.bind_some]
    · simp at h
def seg_transomref07_Number_5 (g : ByteArray → Int → Int → Int → Option (Int × Int)) : Seg where
  path := [1, 1, 5, 4, 1, 0, 1, 1, 1, 1, 1]
  prep := []
  keep := [0, 4, 5, 6]
  F := fun tvs blks {β} K => match tvs, blks with
    | [.v (.one (.d .str x0)), .v (.one (.d (.int .i64) x1)), .v (.one (.d (.int .i64) x2)), .v (.one (.d (.int .i64) x3))], [] => (g x0 x1 x2 x3).bind fun r => K ⟨.tup [(.one (.d (.int .i64) r.1)), (.one (.d (.int .i64) r.2))], []⟩
    | _, _ => none
  legit := fun tvs blks K r h => by
    split at h
    · obtain ⟨x, hx, hk⟩ := Option.bind_eq_some_iff.1 h
      refine ⟨_, ?_, hk⟩
      simp only [hx, Option.bind_some]
    · simp at h
noncomputable def env_transomref07_Number (g17 : Int → Option ByteArray) (s0 : ByteArray → Int → Int → Bool → Option (Int × Int)) (s1 : ByteArray → Int → Int → Option (Int × Int)) (s2 : ByteArray → Int → Int → Int → Option (Int × Int)) (s3 : ByteArray → Int → Int → Int → Bool → Option (Int × Int)) (s4 : ByteArray → Int → Int → Int → Option (Int × Int)) (s5 : ByteArray → Int → Int → Int → Option (Int × Int)) : FEnv := { P := Go.Proofs.Try.prog, ct := fun m => if m = 17 then some (ct_transomref07_Digits g17) else none, N := 52, body := Go.Proofs.Try.f15.body.getD .skip, rvs := [.tmp 2, .tmp 3], rts := [3, 3], nin := 0, rmv := [], segs := [seg_transomref07_Number_0 s0, seg_transomref07_Number_1 s1, seg_transomref07_Number_2 s2, seg_transomref07_Number_3 s3, seg_transomref07_Number_4 s4, seg_transomref07_Number_5 s5] }
def transomref07_Number.c {β : Type} (g17 : Int → Option ByteArray) (s0 : ByteArray → Int → Int → Bool → Option (Int × Int)) (s1 : ByteArray → Int → Int → Option (Int × Int)) (s2 : ByteArray → Int → Int → Int → Option (Int × Int)) (s3 : ByteArray → Int → Int → Int → Bool → Option (Int × Int)) (s4 : ByteArray → Int → Int → Int → Option (Int × Int)) (s5 : ByteArray → Int → Int → Int → Option (Int × Int)) (a0 : ByteArray) (ret : (Int × Int) → Option β) : Option β := (bif (decide (((ByteArray.size a0) : Int) > (0 : Int))) then (bif (true && (decide ((0 : Int) < ((ByteArray.size a0) : Int)))) then ((s0 a0 (0 : Int) (0 : Int) ((bt a0 (0 : Int)) == (45 : Int))).bind ret) else none) else ((s0 a0 (0 : Int) (0 : Int) false).bind ret))
def transomref07_Number.s0c {β : Type} (g17 : Int → Option ByteArray) (s0 : ByteArray → Int → Int → Bool → Option (Int × Int)) (s1 : ByteArray → Int → Int → Option (Int × Int)) (s2 : ByteArray → Int → Int → Int → Option (Int × Int)) (s3 : ByteArray → Int → Int → Int → Bool → Option (Int × Int)) (s4 : ByteArray → Int → Int → Int → Option (Int × Int)) (s5 : ByteArray → Int → Int → Int → Option (Int × Int)) (x0 : ByteArray) (x1 : Int) (x2 : Int) (x3 : Bool) (ret : (Int × Int) → Option β) : Option β := (bif x3 then ((s1 x0 x1 (1 : Int)).bind ret) else ((s1 x0 x1 x2).bind ret))
def transomref07_Number.s1c {β : Type} (g17 : Int → Option ByteArray) (s0 : ByteArray → Int → Int → Bool → Option (Int × Int)) (s1 : ByteArray → Int → Int → Option (Int × Int)) (s2 : ByteArray → Int → Int → Int → Option (Int × Int)) (s3 : ByteArray → Int → Int → Int → Bool → Option (Int × Int)) (s4 : ByteArray → Int → Int → Int → Option (Int × Int)) (s5 : ByteArray → Int → Int → Int → Option (Int × Int)) (x0 : ByteArray) (x1 : Int) (x2 : Int) (ret : (Int × Int) → Option β) : Option β := (bif (decide (((ByteArray.size x0) : Int) > (20 : Int))) then (ret ((0 : Int), (7 : Int))) else ((s2 x0 x1 x2 x2).bind ret))
def transomref07_Number.s2c {β : Type} (g17 : Int → Option ByteArray) (s0 : ByteArray → Int → Int → Bool → Option (Int × Int)) (s1 : ByteArray → Int → Int → Option (Int × Int)) (s2 : ByteArray → Int → Int → Int → Option (Int × Int)) (s3 : ByteArray → Int → Int → Int → Bool → Option (Int × Int)) (s4 : ByteArray → Int → Int → Int → Option (Int × Int)) (s5 : ByteArray → Int → Int → Int → Option (Int × Int)) (x0 : ByteArray) (x1 : Int) (x2 : Int) (x3 : Int) (ret : (Int × Int) → Option β) : Option β := (bif (decide (x3 < ((ByteArray.size x0) : Int))) then (bif ((decide ((0 : Int) ≤ x3)) && (decide (x3 < ((ByteArray.size x0) : Int)))) then (bif (decide ((bt x0 x3) < (48 : Int))) then ((s3 x0 x1 x2 x3 true).bind ret) else (bif ((decide ((0 : Int) ≤ x3)) && (decide (x3 < ((ByteArray.size x0) : Int)))) then ((s3 x0 x1 x2 x3 (decide ((bt x0 x3) > (57 : Int)))).bind ret) else none)) else none) else (bif (x2 == (1 : Int)) then ((g17 (IntKind.wrap IntKind.i64 ((0 : Int) - x1))).bind fun r0 => (bif (!((ByteArray.toList r0) == (ByteArray.toList x0))) then (ret ((0 : Int), (7 : Int))) else (ret ((IntKind.wrap IntKind.i64 ((0 : Int) - x1)), (0 : Int))))) else ((g17 x1).bind fun r1 => (bif (!((ByteArray.toList r1) == (ByteArray.toList x0))) then (ret ((0 : Int), (7 : Int))) else (ret (x1, (0 : Int)))))))
def transomref07_Number.s3c {β : Type} (g17 : Int → Option ByteArray) (s0 : ByteArray → Int → Int → Bool → Option (Int × Int)) (s1 : ByteArray → Int → Int → Option (Int × Int)) (s2 : ByteArray → Int → Int → Int → Option (Int × Int)) (s3 : ByteArray → Int → Int → Int → Bool → Option (Int × Int)) (s4 : ByteArray → Int → Int → Int → Option (Int × Int)) (s5 : ByteArray → Int → Int → Int → Option (Int × Int)) (x0 : ByteArray) (x1 : Int) (x2 : Int) (x3 : Int) (x4 : Bool) (ret : (Int × Int) → Option β) : Option β := (bif x4 then (ret ((0 : Int), (7 : Int))) else ((s4 x0 x1 x2 x3).bind ret))
def transomref07_Number.s4c {β : Type} (g17 : Int → Option ByteArray) (s0 : ByteArray → Int → Int → Bool → Option (Int × Int)) (s1 : ByteArray → Int → Int → Option (Int × Int)) (s2 : ByteArray → Int → Int → Int → Option (Int × Int)) (s3 : ByteArray → Int → Int → Int → Bool → Option (Int × Int)) (s4 : ByteArray → Int → Int → Int → Option (Int × Int)) (s5 : ByteArray → Int → Int → Int → Option (Int × Int)) (x0 : ByteArray) (x1 : Int) (x2 : Int) (x3 : Int) (ret : (Int × Int) → Option β) : Option β := (bif ((decide ((0 : Int) ≤ x3)) && (decide (x3 < ((ByteArray.size x0) : Int)))) then ((s5 x0 (IntKind.wrap IntKind.i64 ((IntKind.wrap IntKind.i64 ((IntKind.wrap IntKind.i64 (x1 * (10 : Int))) + (IntKind.wrap IntKind.i64 (bt x0 x3)))) - (48 : Int))) x2 x3).bind ret) else none)
def transomref07_Number.s5c {β : Type} (g17 : Int → Option ByteArray) (s0 : ByteArray → Int → Int → Bool → Option (Int × Int)) (s1 : ByteArray → Int → Int → Option (Int × Int)) (s2 : ByteArray → Int → Int → Int → Option (Int × Int)) (s3 : ByteArray → Int → Int → Int → Bool → Option (Int × Int)) (s4 : ByteArray → Int → Int → Int → Option (Int × Int)) (s5 : ByteArray → Int → Int → Int → Option (Int × Int)) (x0 : ByteArray) (x1 : Int) (x2 : Int) (x3 : Int) (ret : (Int × Int) → Option β) : Option β := ((s2 x0 x1 x2 (IntKind.wrap IntKind.i64 (x3 + (1 : Int)))).bind ret)
theorem transomref07_Number.c_bind {β : Type} (g17 : Int → Option ByteArray) (s0 : ByteArray → Int → Int → Bool → Option (Int × Int)) (s1 : ByteArray → Int → Int → Option (Int × Int)) (s2 : ByteArray → Int → Int → Int → Option (Int × Int)) (s3 : ByteArray → Int → Int → Int → Bool → Option (Int × Int)) (s4 : ByteArray → Int → Int → Int → Option (Int × Int)) (s5 : ByteArray → Int → Int → Int → Option (Int × Int)) (a0 : ByteArray) (ret : (Int × Int) → Option β) : transomref07_Number.c g17 s0 s1 s2 s3 s4 s5 a0 ret = (transomref07_Number.c g17 s0 s1 s2 s3 s4 s5 a0 some).bind ret := by
  simp only [transomref07_Number.c, bif_bind, sum_bind, Option.bind_assoc, Option.bind_some, Option.bind_none, Option.bind_fun_some]
theorem transomref07_Number.s0c_bind {β : Type} (g17 : Int → Option ByteArray) (s0 : ByteArray → Int → Int → Bool → Option (Int × Int)) (s1 : ByteArray → Int → Int → Option (Int × Int)) (s2 : ByteArray → Int → Int → Int → Option (Int × Int)) (s3 : ByteArray → Int → Int → Int → Bool → Option (Int × Int)) (s4 : ByteArray → Int → Int → Int → Option (Int × Int)) (s5 : ByteArray → Int → Int → Int → Option (Int × Int)) (x0 : ByteArray) (x1 : Int) (x2 : Int) (x3 : Bool) (ret : (Int × Int) → Option β) : transomref07_Number.s0c g17 s0 s1 s2 s3 s4 s5 x0 x1 x2 x3 ret = (transomref07_Number.s0c g17 s0 s1 s2 s3 s4 s5 x0 x1 x2 x3 some).bind ret := by
  simp only [transomref07_Number.s0c, bif_bind, sum_bind, Option.bind_assoc, Option.bind_some, Option.bind_none, Option.bind_fun_some]
theorem transomref07_Number.s1c_bind {β : Type} (g17 : Int → Option ByteArray) (s0 : ByteArray → Int → Int → Bool → Option (Int × Int)) (s1 : ByteArray → Int → Int → Option (Int × Int)) (s2 : ByteArray → Int → Int → Int → Option (Int × Int)) (s3 : ByteArray → Int → Int → Int → Bool → Option (Int × Int)) (s4 : ByteArray → Int → Int → Int → Option (Int × Int)) (s5 : ByteArray → Int → Int → Int → Option (Int × Int)) (x0 : ByteArray) (x1 : Int) (x2 : Int) (ret : (Int × Int) → Option β) : transomref07_Number.s1c g17 s0 s1 s2 s3 s4 s5 x0 x1 x2 ret = (transomref07_Number.s1c g17 s0 s1 s2 s3 s4 s5 x0 x1 x2 some).bind ret := by
  simp only [transomref07_Number.s1c, bif_bind, sum_bind, Option.bind_assoc, Option.bind_some, Option.bind_none, Option.bind_fun_some]
theorem transomref07_Number.s2c_bind {β : Type} (g17 : Int → Option ByteArray) (s0 : ByteArray → Int → Int → Bool → Option (Int × Int)) (s1 : ByteArray → Int → Int → Option (Int × Int)) (s2 : ByteArray → Int → Int → Int → Option (Int × Int)) (s3 : ByteArray → Int → Int → Int → Bool → Option (Int × Int)) (s4 : ByteArray → Int → Int → Int → Option (Int × Int)) (s5 : ByteArray → Int → Int → Int → Option (Int × Int)) (x0 : ByteArray) (x1 : Int) (x2 : Int) (x3 : Int) (ret : (Int × Int) → Option β) : transomref07_Number.s2c g17 s0 s1 s2 s3 s4 s5 x0 x1 x2 x3 ret = (transomref07_Number.s2c g17 s0 s1 s2 s3 s4 s5 x0 x1 x2 x3 some).bind ret := by
  simp only [transomref07_Number.s2c, bif_bind, sum_bind, Option.bind_assoc, Option.bind_some, Option.bind_none, Option.bind_fun_some]
theorem transomref07_Number.s3c_bind {β : Type} (g17 : Int → Option ByteArray) (s0 : ByteArray → Int → Int → Bool → Option (Int × Int)) (s1 : ByteArray → Int → Int → Option (Int × Int)) (s2 : ByteArray → Int → Int → Int → Option (Int × Int)) (s3 : ByteArray → Int → Int → Int → Bool → Option (Int × Int)) (s4 : ByteArray → Int → Int → Int → Option (Int × Int)) (s5 : ByteArray → Int → Int → Int → Option (Int × Int)) (x0 : ByteArray) (x1 : Int) (x2 : Int) (x3 : Int) (x4 : Bool) (ret : (Int × Int) → Option β) : transomref07_Number.s3c g17 s0 s1 s2 s3 s4 s5 x0 x1 x2 x3 x4 ret = (transomref07_Number.s3c g17 s0 s1 s2 s3 s4 s5 x0 x1 x2 x3 x4 some).bind ret := by
  simp only [transomref07_Number.s3c, bif_bind, sum_bind, Option.bind_assoc, Option.bind_some, Option.bind_none, Option.bind_fun_some]
theorem transomref07_Number.s4c_bind {β : Type} (g17 : Int → Option ByteArray) (s0 : ByteArray → Int → Int → Bool → Option (Int × Int)) (s1 : ByteArray → Int → Int → Option (Int × Int)) (s2 : ByteArray → Int → Int → Int → Option (Int × Int)) (s3 : ByteArray → Int → Int → Int → Bool → Option (Int × Int)) (s4 : ByteArray → Int → Int → Int → Option (Int × Int)) (s5 : ByteArray → Int → Int → Int → Option (Int × Int)) (x0 : ByteArray) (x1 : Int) (x2 : Int) (x3 : Int) (ret : (Int × Int) → Option β) : transomref07_Number.s4c g17 s0 s1 s2 s3 s4 s5 x0 x1 x2 x3 ret = (transomref07_Number.s4c g17 s0 s1 s2 s3 s4 s5 x0 x1 x2 x3 some).bind ret := by
  simp only [transomref07_Number.s4c, bif_bind, sum_bind, Option.bind_assoc, Option.bind_some, Option.bind_none, Option.bind_fun_some]
theorem transomref07_Number.s5c_bind {β : Type} (g17 : Int → Option ByteArray) (s0 : ByteArray → Int → Int → Bool → Option (Int × Int)) (s1 : ByteArray → Int → Int → Option (Int × Int)) (s2 : ByteArray → Int → Int → Int → Option (Int × Int)) (s3 : ByteArray → Int → Int → Int → Bool → Option (Int × Int)) (s4 : ByteArray → Int → Int → Int → Option (Int × Int)) (s5 : ByteArray → Int → Int → Int → Option (Int × Int)) (x0 : ByteArray) (x1 : Int) (x2 : Int) (x3 : Int) (ret : (Int × Int) → Option β) : transomref07_Number.s5c g17 s0 s1 s2 s3 s4 s5 x0 x1 x2 x3 ret = (transomref07_Number.s5c g17 s0 s1 s2 s3 s4 s5 x0 x1 x2 x3 some).bind ret := by
  simp only [transomref07_Number.s5c, bif_bind, sum_bind, Option.bind_assoc, Option.bind_some, Option.bind_none, Option.bind_fun_some]
theorem transomref07_Number.ev (g17 : Int → Option ByteArray) (s0 : ByteArray → Int → Int → Bool → Option (Int × Int)) (s1 : ByteArray → Int → Int → Option (Int × Int)) (s2 : ByteArray → Int → Int → Int → Option (Int × Int)) (s3 : ByteArray → Int → Int → Int → Bool → Option (Int × Int)) (s4 : ByteArray → Int → Int → Int → Option (Int × Int)) (s5 : ByteArray → Int → Int → Int → Option (Int × Int)) (a0 : ByteArray) : evAt (env_transomref07_Number g17 s0 s1 s2 s3 s4 s5) [] [0] [.v (.one (.d .str a0))] [] some = transomref07_Number.c g17 s0 s1 s2 s3 s4 s5 a0 (fun r => some ⟨.tup [(.one (.d (.int .i64) r.1)), (.one (.d (.int .i64) r.2))], []⟩) := by
  kernel_rfl
theorem transomref07_Number.s0_ev (g17 : Int → Option ByteArray) (s0 : ByteArray → Int → Int → Bool → Option (Int × Int)) (s1 : ByteArray → Int → Int → Option (Int × Int)) (s2 : ByteArray → Int → Int → Int → Option (Int × Int)) (s3 : ByteArray → Int → Int → Int → Bool → Option (Int × Int)) (s4 : ByteArray → Int → Int → Int → Option (Int × Int)) (s5 : ByteArray → Int → Int → Int → Option (Int × Int)) (x0 : ByteArray) (x1 : Int) (x2 : Int) (x3 : Bool) : evAt (env_transomref07_Number g17 s0 s1 s2 s3 s4 s5) [1, 0, 1, 1, 1] [0, 4, 5, 14] [.v (.one (.d .str x0)), .v (.one (.d (.int .i64) x1)), .v (.one (.d (.int .i64) x2)), .v (.one (.d .bool x3))] [] some = transomref07_Number.s0c g17 s0 s1 s2 s3 s4 s5 x0 x1 x2 x3 (fun r => some ⟨.tup [(.one (.d (.int .i64) r.1)), (.one (.d (.int .i64) r.2))], []⟩) := by
  kernel_rfl
theorem transomref07_Number.s1_ev (g17 : Int → Option ByteArray) (s0 : ByteArray → Int → Int → Bool → Option (Int × Int)) (s1 : ByteArray → Int → Int → Option (Int × Int)) (s2 : ByteArray → Int → Int → Int → Option (Int × Int)) (s3 : ByteArray → Int → Int → Int → Bool → Option (Int × Int)) (s4 : ByteArray → Int → Int → Int → Option (Int × Int)) (s5 : ByteArray → Int → Int → Int → Option (Int × Int)) (x0 : ByteArray) (x1 : Int) (x2 : Int) : evAt (env_transomref07_Number g17 s0 s1 s2 s3 s4 s5) [1, 1, 1, 1] [0, 4, 5] [.v (.one (.d .str x0)), .v (.one (.d (.int .i64) x1)), .v (.one (.d (.int .i64) x2))] [] some = transomref07_Number.s1c g17 s0 s1 s2 s3 s4 s5 x0 x1 x2 (fun r => some ⟨.tup [(.one (.d (.int .i64) r.1)), (.one (.d (.int .i64) r.2))], []⟩) := by
  kernel_rfl
theorem transomref07_Number.s2_ev (g17 : Int → Option ByteArray) (s0 : ByteArray → Int → Int → Bool → Option (Int × Int)) (s1 : ByteArray → Int → Int → Option (Int × Int)) (s2 : ByteArray → Int → Int → Int → Option (Int × Int)) (s3 : ByteArray → Int → Int → Int → Bool → Option (Int × Int)) (s4 : ByteArray → Int → Int → Int → Option (Int × Int)) (s5 : ByteArray → Int → Int → Int → Option (Int × Int)) (x0 : ByteArray) (x1 : Int) (x2 : Int) (x3 : Int) : evAt (env_transomref07_Number g17 s0 s1 s2 s3 s4 s5) [4, 1, 0, 1, 1, 1, 1, 1] [0, 4, 5, 6] [.v (.one (.d .str x0)), .v (.one (.d (.int .i64) x1)), .v (.one (.d (.int .i64) x2)), .v (.one (.d (.int .i64) x3))] [] some = transomref07_Number.s2c g17 s0 s1 s2 s3 s4 s5 x0 x1 x2 x3 (fun r => some ⟨.tup [(.one (.d (.int .i64) r.1)), (.one (.d (.int .i64) r.2))], []⟩) := by
  kernel_rfl
theorem transomref07_Number.s3_ev (g17 : Int → Option ByteArray) (s0 : ByteArray → Int → Int → Bool → Option (Int × Int)) (s1 : ByteArray → Int → Int → Option (Int × Int)) (s2 : ByteArray → Int → Int → Int → Option (Int × Int)) (s3 : ByteArray → Int → Int → Int → Bool → Option (Int × Int)) (s4 : ByteArray → Int → Int → Int → Option (Int × Int)) (s5 : ByteArray → Int → Int → Int → Option (Int × Int)) (x0 : ByteArray) (x1 : Int) (x2 : Int) (x3 : Int) (x4 : Bool) : evAt (env_transomref07_Number g17 s0 s1 s2 s3 s4 s5) [1, 0, 4, 0, 1, 5, 4, 1, 0, 1, 1, 1, 1, 1] [0, 4, 5, 6, 34] [.v (.one (.d .str x0)), .v (.one (.d (.int .i64) x1)), .v (.one (.d (.int .i64) x2)), .v (.one (.d (.int .i64) x3)), .v (.one (.d .bool x4))] [] some = transomref07_Number.s3c g17 s0 s1 s2 s3 s4 s5 x0 x1 x2 x3 x4 (fun r => some ⟨.tup [(.one (.d (.int .i64) r.1)), (.one (.d (.int .i64) r.2))], []⟩) := by
  kernel_rfl
theorem transomref07_Number.s4_ev (g17 : Int → Option ByteArray) (s0 : ByteArray → Int → Int → Bool → Option (Int × Int)) (s1 : ByteArray → Int → Int → Option (Int × Int)) (s2 : ByteArray → Int → Int → Int → Option (Int × Int)) (s3 : ByteArray → Int → Int → Int → Bool → Option (Int × Int)) (s4 : ByteArray → Int → Int → Int → Option (Int × Int)) (s5 : ByteArray → Int → Int → Int → Option (Int × Int)) (x0 : ByteArray) (x1 : Int) (x2 : Int) (x3 : Int) : evAt (env_transomref07_Number g17 s0 s1 s2 s3 s4 s5) [1, 4, 0, 1, 5, 4, 1, 0, 1, 1, 1, 1, 1] [0, 4, 5, 6] [.v (.one (.d .str x0)), .v (.one (.d (.int .i64) x1)), .v (.one (.d (.int .i64) x2)), .v (.one (.d (.int .i64) x3))] [] some = transomref07_Number.s4c g17 s0 s1 s2 s3 s4 s5 x0 x1 x2 x3 (fun r => some ⟨.tup [(.one (.d (.int .i64) r.1)), (.one (.d (.int .i64) r.2))], []⟩) := by
  kernel_rfl
theorem transomref07_Number.s5_ev (g17 : Int → Option ByteArray) (s0 : ByteArray → Int → Int → Bool → Option (Int × Int)) (s1 : ByteArray → Int → Int → Option (Int × Int)) (s2 : ByteArray → Int → Int → Int → Option (Int × Int)) (s3 : ByteArray → Int → Int → Int → Bool → Option (Int × Int)) (s4 : ByteArray → Int → Int → Int → Option (Int × Int)) (s5 : ByteArray → Int → Int → Int → Option (Int × Int)) (x0 : ByteArray) (x1 : Int) (x2 : Int) (x3 : Int) : evAt (env_transomref07_Number g17 s0 s1 s2 s3 s4 s5) [1, 1, 5, 4, 1, 0, 1, 1, 1, 1, 1] [0, 4, 5, 6] [.v (.one (.d .str x0)), .v (.one (.d (.int .i64) x1)), .v (.one (.d (.int .i64) x2)), .v (.one (.d (.int .i64) x3))] [] some = transomref07_Number.s5c g17 s0 s1 s2 s3 s4 s5 x0 x1 x2 x3 (fun r => some ⟨.tup [(.one (.d (.int .i64) r.1)), (.one (.d (.int .i64) r.2))], []⟩) := by
  kernel_rfl
mutual
def transomref07_Number.s0 : Nat → ByteArray → Int → Int → Bool → Option (Int × Int)
  | 0, _, _, _, _ => none
  | k + 1, x0, x1, x2, x3 => transomref07_Number.s0c (transomref07_Digits.f k) (transomref07_Number.s0 k) (transomref07_Number.s1 k) (transomref07_Number.s2 k) (transomref07_Number.s3 k) (transomref07_Number.s4 k) (transomref07_Number.s5 k) x0 x1 x2 x3 some
def transomref07_Number.s1 : Nat → ByteArray → Int → Int → Option (Int × Int)
  | 0, _, _, _ => none
  | k + 1, x0, x1, x2 => transomref07_Number.s1c (transomref07_Digits.f k) (transomref07_Number.s0 k) (transomref07_Number.s1 k) (transomref07_Number.s2 k) (transomref07_Number.s3 k) (transomref07_Number.s4 k) (transomref07_Number.s5 k) x0 x1 x2 some
def transomref07_Number.s2 : Nat → ByteArray → Int → Int → Int → Option (Int × Int)
  | 0, _, _, _, _ => none
  | k + 1, x0, x1, x2, x3 => transomref07_Number.s2c (transomref07_Digits.f k) (transomref07_Number.s0 k) (transomref07_Number.s1 k) (transomref07_Number.s2 k) (transomref07_Number.s3 k) (transomref07_Number.s4 k) (transomref07_Number.s5 k) x0 x1 x2 x3 some
def transomref07_Number.s3 : Nat → ByteArray → Int → Int → Int → Bool → Option (Int × Int)
  | 0, _, _, _, _, _ => none
  | k + 1, x0, x1, x2, x3, x4 => transomref07_Number.s3c (transomref07_Digits.f k) (transomref07_Number.s0 k) (transomref07_Number.s1 k) (transomref07_Number.s2 k) (transomref07_Number.s3 k) (transomref07_Number.s4 k) (transomref07_Number.s5 k) x0 x1 x2 x3 x4 some
def transomref07_Number.s4 : Nat → ByteArray → Int → Int → Int → Option (Int × Int)
  | 0, _, _, _, _ => none
  | k + 1, x0, x1, x2, x3 => transomref07_Number.s4c (transomref07_Digits.f k) (transomref07_Number.s0 k) (transomref07_Number.s1 k) (transomref07_Number.s2 k) (transomref07_Number.s3 k) (transomref07_Number.s4 k) (transomref07_Number.s5 k) x0 x1 x2 x3 some
def transomref07_Number.s5 : Nat → ByteArray → Int → Int → Int → Option (Int × Int)
  | 0, _, _, _, _ => none
  | k + 1, x0, x1, x2, x3 => transomref07_Number.s5c (transomref07_Digits.f k) (transomref07_Number.s0 k) (transomref07_Number.s1 k) (transomref07_Number.s2 k) (transomref07_Number.s3 k) (transomref07_Number.s4 k) (transomref07_Number.s5 k) x0 x1 x2 x3 some
end
def transomref07_Number.f (k : Nat) (a0 : ByteArray) : Option (Int × Int) := transomref07_Number.c (transomref07_Digits.f k) (transomref07_Number.s0 k) (transomref07_Number.s1 k) (transomref07_Number.s2 k) (transomref07_Number.s3 k) (transomref07_Number.s4 k) (transomref07_Number.s5 k) a0 some
theorem transomref07_Number.is (g17 : Int → Option ByteArray) (s0 : ByteArray → Int → Int → Bool → Option (Int × Int)) (s1 : ByteArray → Int → Int → Option (Int × Int)) (s2 : ByteArray → Int → Int → Int → Option (Int × Int)) (s3 : ByteArray → Int → Int → Int → Bool → Option (Int × Int)) (s4 : ByteArray → Int → Int → Int → Option (Int × Int)) (s5 : ByteArray → Int → Int → Int → Option (Int × Int)) : FnIs (env_transomref07_Number g17 s0 s1 s2 s3 s4 s5) 15 Go.Proofs.Try.f15 := ⟨Go.Proofs.Try.func15, rfl, rfl, rfl, by decide⟩
theorem transomref07_Number.envok (g17 : Int → Option ByteArray) (s0 : ByteArray → Int → Int → Bool → Option (Int × Int)) (s1 : ByteArray → Int → Int → Option (Int × Int)) (s2 : ByteArray → Int → Int → Int → Option (Int × Int)) (s3 : ByteArray → Int → Int → Int → Bool → Option (Int × Int)) (s4 : ByteArray → Int → Int → Int → Option (Int × Int)) (s5 : ByteArray → Int → Int → Int → Option (Int × Int)) (h17 : CtOK Go.Proofs.Try.prog 17 (ct_transomref07_Digits g17)) : EnvOK (env_transomref07_Number g17 s0 s1 s2 s3 s4 s5).toEnv := by
  intro f c h
  simp only [env_transomref07_Number] at h
  split at h
  · rename_i e; subst e; cases h; exact h17
  simp at h
theorem transomref07_Number.segs_ok : ∀ k, ∀ s ∈ (env_transomref07_Number (transomref07_Digits.f k) (transomref07_Number.s0 k) (transomref07_Number.s1 k) (transomref07_Number.s2 k) (transomref07_Number.s3 k) (transomref07_Number.s4 k) (transomref07_Number.s5 k)).segs, SegOK (env_transomref07_Number (transomref07_Digits.f k) (transomref07_Number.s0 k) (transomref07_Number.s1 k) (transomref07_Number.s2 k) (transomref07_Number.s3 k) (transomref07_Number.s4 k) (transomref07_Number.s5 k)) Go.Proofs.Try.f15 s
  | 0 => by
    intro s hs
    simp only [env_transomref07_Number, List.mem_cons, List.not_mem_nil, or_false] at hs
    rcases hs with rfl | rfl | rfl | rfl | rfl | rfl
    · intro tvs blks res h; exfalso; simp only [seg_transomref07_Number_0] at h; split at h <;> simp [transomref07_Number.s0] at h
    · intro tvs blks res h; exfalso; simp only [seg_transomref07_Number_1] at h; split at h <;> simp [transomref07_Number.s1] at h
    · intro tvs blks res h; exfalso; simp only [seg_transomref07_Number_2] at h; split at h <;> simp [transomref07_Number.s2] at h
    · intro tvs blks res h; exfalso; simp only [seg_transomref07_Number_3] at h; split at h <;> simp [transomref07_Number.s3] at h
    · intro tvs blks res h; exfalso; simp only [seg_transomref07_Number_4] at h; split at h <;> simp [transomref07_Number.s4] at h
    · intro tvs blks res h; exfalso; simp only [seg_transomref07_Number_5] at h; split at h <;> simp [transomref07_Number.s5] at h
  | k + 1 => by
    have ih := transomref07_Number.segs_ok k
    intro s hs
    simp only [env_transomref07_Number, List.mem_cons, List.not_mem_nil, or_false] at hs
    rcases hs with rfl | rfl | rfl | rfl | rfl | rfl
    · refine seg_of_ev (E := env_transomref07_Number (transomref07_Digits.f k) (transomref07_Number.s0 k) (transomref07_Number.s1 k) (transomref07_Number.s2 k) (transomref07_Number.s3 k) (transomref07_Number.s4 k) (transomref07_Number.s5 k)) (transomref07_Number.envok _ _ _ _ _ _ _  (transomref07_Digits.ok k)) ⟨(transomref07_Number.is (transomref07_Digits.f k) (transomref07_Number.s0 k) (transomref07_Number.s1 k) (transomref07_Number.s2 k) (transomref07_Number.s3 k) (transomref07_Number.s4 k) (transomref07_Number.s5 k)).rvs⟩ ih ?_
      intro tvs blks res h
      simp only [seg_transomref07_Number_0] at h
      split at h
      · refine (transomref07_Number.s0_ev (transomref07_Digits.f k) (transomref07_Number.s0 k) (transomref07_Number.s1 k) (transomref07_Number.s2 k) (transomref07_Number.s3 k) (transomref07_Number.s4 k) (transomref07_Number.s5 k) _ _ _ _ ).trans ?_
        rw [transomref07_Number.s0c_bind]
        exact h
      · simp at h
    · refine seg_of_ev (E := env_transomref07_Number (transomref07_Digits.f k) (transomref07_Number.s0 k) (transomref07_Number.s1 k) (transomref07_Number.s2 k) (transomref07_Number.s3 k) (transomref07_Number.s4 k) (transomref07_Number.s5 k)) (transomref07_Number.envok _ _ _ _ _ _ _  (transomref07_Digits.ok k)) ⟨(transomref07_Number.is (transomref07_Digits.f k) (transomref07_Number.s0 k) (transomref07_Number.s1 k) (transomref07_Number.s2 k) (transomref07_Number.s3 k) (transomref07_Number.s4 k) (transomref07_Number.s5 k)).rvs⟩ ih ?_
      intro tvs blks res h
      simp only [seg_transomref07_Number_1] at h
      split at h
      · refine (transomref07_Number.s1_ev (transomref07_Digits.f k) (transomref07_Number.s0 k) (transomref07_Number.s1 k) (transomref07_Number.s2 k) (transomref07_Number.s3 k) (transomref07_Number.s4 k) (transomref07_Number.s5 k) _ _ _ ).trans ?_
        rw [transomref07_Number.s1c_bind]
        exact h
      · simp at h
    · refine seg_of_ev (E := env_transomref07_Number (transomref07_Digits.f k) (transomref07_Number.s0 k) (transomref07_Number.s1 k) (transomref07_Number.s2 k) (transomref07_Number.s3 k) (transomref07_Number.s4 k) (transomref07_Number.s5 k)) (transomref07_Number.envok _ _ _ _ _ _ _  (transomref07_Digits.ok k)) ⟨(transomref07_Number.is (transomref07_Digits.f k) (transomref07_Number.s0 k) (transomref07_Number.s1 k) (transomref07_Number.s2 k) (transomref07_Number.s3 k) (transomref07_Number.s4 k) (transomref07_Number.s5 k)).rvs⟩ ih ?_
      intro tvs blks res h
      simp only [seg_transomref07_Number_2] at h
      split at h
      · refine (transomref07_Number.s2_ev (transomref07_Digits.f k) (transomref07_Number.s0 k) (transomref07_Number.s1 k) (transomref07_Number.s2 k) (transomref07_Number.s3 k) (transomref07_Number.s4 k) (transomref07_Number.s5 k) _ _ _ _ ).trans ?_
        rw [transomref07_Number.s2c_bind]
        exact h
      · simp at h
    · refine seg_of_ev (E := env_transomref07_Number (transomref07_Digits.f k) (transomref07_Number.s0 k) (transomref07_Number.s1 k) (transomref07_Number.s2 k) (transomref07_Number.s3 k) (transomref07_Number.s4 k) (transomref07_Number.s5 k)) (transomref07_Number.envok _ _ _ _ _ _ _  (transomref07_Digits.ok k)) ⟨(transomref07_Number.is (transomref07_Digits.f k) (transomref07_Number.s0 k) (transomref07_Number.s1 k) (transomref07_Number.s2 k) (transomref07_Number.s3 k) (transomref07_Number.s4 k) (transomref07_Number.s5 k)).rvs⟩ ih ?_
      intro tvs blks res h
      simp only [seg_transomref07_Number_3] at h
      split at h
      · refine (transomref07_Number.s3_ev (transomref07_Digits.f k) (transomref07_Number.s0 k) (transomref07_Number.s1 k) (transomref07_Number.s2 k) (transomref07_Number.s3 k) (transomref07_Number.s4 k) (transomref07_Number.s5 k) _ _ _ _ _ ).trans ?_
        rw [transomref07_Number.s3c_bind]
        exact h
      · simp at h
    · refine seg_of_ev (E := env_transomref07_Number (transomref07_Digits.f k) (transomref07_Number.s0 k) (transomref07_Number.s1 k) (transomref07_Number.s2 k) (transomref07_Number.s3 k) (transomref07_Number.s4 k) (transomref07_Number.s5 k)) (transomref07_Number.envok _ _ _ _ _ _ _  (transomref07_Digits.ok k)) ⟨(transomref07_Number.is (transomref07_Digits.f k) (transomref07_Number.s0 k) (transomref07_Number.s1 k) (transomref07_Number.s2 k) (transomref07_Number.s3 k) (transomref07_Number.s4 k) (transomref07_Number.s5 k)).rvs⟩ ih ?_
      intro tvs blks res h
      simp only [seg_transomref07_Number_4] at h
      split at h
      · refine (transomref07_Number.s4_ev (transomref07_Digits.f k) (transomref07_Number.s0 k) (transomref07_Number.s1 k) (transomref07_Number.s2 k) (transomref07_Number.s3 k) (transomref07_Number.s4 k) (transomref07_Number.s5 k) _ _ _ _ ).trans ?_
        rw [transomref07_Number.s4c_bind]
        exact h
      · simp at h
    · refine seg_of_ev (E := env_transomref07_Number (transomref07_Digits.f k) (transomref07_Number.s0 k) (transomref07_Number.s1 k) (transomref07_Number.s2 k) (transomref07_Number.s3 k) (transomref07_Number.s4 k) (transomref07_Number.s5 k)) (transomref07_Number.envok _ _ _ _ _ _ _  (transomref07_Digits.ok k)) ⟨(transomref07_Number.is (transomref07_Digits.f k) (transomref07_Number.s0 k) (transomref07_Number.s1 k) (transomref07_Number.s2 k) (transomref07_Number.s3 k) (transomref07_Number.s4 k) (transomref07_Number.s5 k)).rvs⟩ ih ?_
      intro tvs blks res h
      simp only [seg_transomref07_Number_5] at h
      split at h
      · refine (transomref07_Number.s5_ev (transomref07_Digits.f k) (transomref07_Number.s0 k) (transomref07_Number.s1 k) (transomref07_Number.s2 k) (transomref07_Number.s3 k) (transomref07_Number.s4 k) (transomref07_Number.s5 k) _ _ _ _ ).trans ?_
        rw [transomref07_Number.s5c_bind]
        exact h
      · simp at h
theorem transomref07_Number.ok (k : Nat) : CtOK Go.Proofs.Try.prog 15 (ct_transomref07_Number (transomref07_Number.f k)) := by
  refine ct_of_ev (E := env_transomref07_Number (transomref07_Digits.f k) (transomref07_Number.s0 k) (transomref07_Number.s1 k) (transomref07_Number.s2 k) (transomref07_Number.s3 k) (transomref07_Number.s4 k) (transomref07_Number.s5 k)) (transomref07_Number.is _ _ _ _ _ _ _ ) (transomref07_Number.envok _ _ _ _ _ _ _  (transomref07_Digits.ok k)) (transomref07_Number.segs_ok k) rfl ?_
  intro tvs blks res h
  simp only [ct_transomref07_Number] at h
  split at h
  · refine (transomref07_Number.ev (transomref07_Digits.f k) (transomref07_Number.s0 k) (transomref07_Number.s1 k) (transomref07_Number.s2 k) (transomref07_Number.s3 k) (transomref07_Number.s4 k) (transomref07_Number.s5 k) _ ).trans ?_
    rw [transomref07_Number.c_bind]
    exact h
  · simp at h
end Go.Proofs.Ytndkobhclggeiaa.Aev
