/- By a program of this session (AEV): functions of the program as plain functions, and that the machine does what they say. -/
import Derived.Test.YtndkobhclggeiaaAevW
import Derived.Test.YtndkobhclggeiaaProg
import Derived.Laws.Externs
import Derived.Lib.Bytealg
import Derived.Test.YtndkobhclggeiaaF0
import Derived.Test.YtndkobhclggeiaaF5
import Derived.Test.YtndkobhclggeiaaF13
import Derived.Test.YtndkobhclggeiaaF17
namespace Go.Proofs.Ytndkobhclggeiaa.Aev
set_option linter.unusedVariables false
set_option linter.unusedSimpArgs false
set_option maxRecDepth 100000
set_option maxHeartbeats 4000000
open Go
/-! ### transomlaw07_ConvertBack: function 6 -/
def ct_transomlaw07_ConvertBack (g : Int → Int → Int → ByteArray → Int → Option Bool) : Ct where
  nin := 0
  mv := []
  F := fun tvs blks {β} K => match tvs, blks with
    | [.v (.agg [(.d (.int .i64) a0), (.d (.int .i64) a1), (.d (.int .u64) a2), (.d .str a3)]), .v (.one (.d (.int .i64) a4))], [] => (g a0 a1 a2 a3 a4).bind fun r => K ⟨.v (.one (.d .bool r)), []⟩
    | _, _ => none
  legit := fun tvs blks K r h => by
    split at h
    · obtain ⟨x, hx, hk⟩ := Option.bind_eq_some_iff.1 h
      refine ⟨_, ?_, hk⟩
      simp only [hx, Option.bind_some]
    · simp at h
def seg_transomlaw07_ConvertBack_0 (g : Int → Bool → Int → Int → Int → ByteArray → Int → Int → Int → ByteArray → Int → Int → Int → ByteArray → Option Bool) : Seg where
  path := [1, 0, 1, 1, 1, 1]
  prep := []
  keep := [1, 2, 5, 7, 31]
  F := fun tvs blks {β} K => match tvs, blks with
    | [.v (.one (.d (.int .i64) x0)), .v (.one (.ptr 0 0)), .v (.one (.ptr 1 0)), .v (.one (.ptr 2 0)), .v (.one (.d .bool x1))], [some (.box [(.d (.int .i64) x2), (.d (.int .i64) x3), (.d (.int .u64) x4), (.d .str x5)]), some (.box [(.d (.int .i64) x6), (.d (.int .i64) x7), (.d (.int .u64) x8), (.d .str x9)]), some (.box [(.d (.int .i64) x10), (.d (.int .i64) x11), (.d (.int .u64) x12), (.d .str x13)])] => (g x0 x1 x2 x3 x4 x5 x6 x7 x8 x9 x10 x11 x12 x13).bind fun r => K ⟨.v (.one (.d .bool r)), []⟩
    | _, _ => none
  legit := fun tvs blks K r h => by
    split at h
    · obtain ⟨x, hx, hk⟩ := Option.bind_eq_some_iff.1 h
      refine ⟨_, ?_, hk⟩
      simp only [hx, Option.bind_some]
    · simp at h
def seg_transomlaw07_ConvertBack_1 (g : Int → Int → Int → Int → ByteArray → Int → Int → Int → ByteArray → Int → Int → Int → ByteArray → Option Bool) : Seg where
  path := [1, 1, 1, 1, 1]
  prep := []
  keep := [1, 2, 5, 7]
  F := fun tvs blks {β} K => match tvs, blks with
    | [.v (.one (.d (.int .i64) x0)), .v (.one (.ptr 0 0)), .v (.one (.ptr 1 0)), .v (.one (.ptr 2 0))], [some (.box [(.d (.int .i64) x1), (.d (.int .i64) x2), (.d (.int .u64) x3), (.d .str x4)]), some (.box [(.d (.int .i64) x5), (.d (.int .i64) x6), (.d (.int .u64) x7), (.d .str x8)]), some (.box [(.d (.int .i64) x9), (.d (.int .i64) x10), (.d (.int .u64) x11), (.d .str x12)])] => (g x0 x1 x2 x3 x4 x5 x6 x7 x8 x9 x10 x11 x12).bind fun r => K ⟨.v (.one (.d .bool r)), []⟩
    | _, _ => none
  legit := fun tvs blks K r h => by
    split at h
    · obtain ⟨x, hx, hk⟩ := Option.bind_eq_some_iff.1 h
      refine ⟨_, ?_, hk⟩
      simp only [hx, Option.bind_some]
    · simp at h
def seg_transomlaw07_ConvertBack_2 (g : Bool → Option Bool) : Seg where
  path := [1, 2, 1, 0, 1, 1, 1, 1, 1]
  prep := []
  keep := [4]
  F := fun tvs blks {β} K => match tvs, blks with
    | [.v (.one (.d .bool x0))], [] => (g x0).bind fun r => K ⟨.v (.one (.d .bool r)), []⟩
    | _, _ => none
  legit := fun tvs blks K r h => by
    split at h
    · obtain ⟨x, hx, hk⟩ := Option.bind_eq_some_iff.1 h
      refine ⟨_, ?_, hk⟩
      simp only [hx, Option.bind_some]
    · simp at h
def seg_transomlaw07_ConvertBack_3 (g : Bool → Int → Int → Int → ByteArray → Int → Int → Int → ByteArray → Option Bool) : Seg where
  path := [1, 0, 1, 1, 1, 1, 1, 1]
  prep := []
  keep := [2, 7, 67]
  F := fun tvs blks {β} K => match tvs, blks with
    | [.v (.one (.ptr 0 0)), .v (.one (.ptr 1 0)), .v (.one (.d .bool x0))], [some (.box [(.d (.int .i64) x1), (.d (.int .i64) x2), (.d (.int .u64) x3), (.d .str x4)]), some (.box [(.d (.int .i64) x5), (.d (.int .i64) x6), (.d (.int .u64) x7), (.d .str x8)])] => (g x0 x1 x2 x3 x4 x5 x6 x7 x8).bind fun r => K ⟨.v (.one (.d .bool r)), []⟩
    | _, _ => none
  legit := fun tvs blks K r h => by
    split at h
    · obtain ⟨x, hx, hk⟩ := Option.bind_eq_some_iff.1 h
      refine ⟨_, ?_, hk⟩
      simp only [hx, Option.bind_some]
    · simp at h
noncomputable def env_transomlaw07_ConvertBack (g7 : Int → Int → Int → ByteArray → Option Int) (g8 : Option Bool) (g9 : Int → Int → Int → ByteArray → Int → Option (Int × Int × Int × ByteArray × Int)) (g11 : Int → Int → Int → ByteArray → Int → Int → Int → ByteArray → Option Bool) (g19 : Int → Int → Option Bool) (s0 : Int → Bool → Int → Int → Int → ByteArray → Int → Int → Int → ByteArray → Int → Int → Int → ByteArray → Option Bool) (s1 : Int → Int → Int → Int → ByteArray → Int → Int → Int → ByteArray → Int → Int → Int → ByteArray → Option Bool) (s2 : Bool → Option Bool) (s3 : Bool → Int → Int → Int → ByteArray → Int → Int → Int → ByteArray → Option Bool) : FEnv := { P := Go.Proofs.Try.prog, ct := fun m => if m = 7 then some (ct_transomlaw04_Few g7) else if m = 8 then some (ct_transomlaw07_awake g8) else if m = 9 then some (ct_convert_To g9) else if m = 11 then some (ct_transomref04_Same g11) else if m = 19 then some (ct_transomref02_Equal g19) else none, N := 81, body := Go.Proofs.Try.f6.body.getD .skip, rvs := [.tmp 4], rts := [4], nin := 0, rmv := [], segs := [seg_transomlaw07_ConvertBack_0 s0, seg_transomlaw07_ConvertBack_1 s1, seg_transomlaw07_ConvertBack_2 s2, seg_transomlaw07_ConvertBack_3 s3] }
def transomlaw07_ConvertBack.c {β : Type} (g7 : Int → Int → Int → ByteArray → Option Int) (g8 : Option Bool) (g9 : Int → Int → Int → ByteArray → Int → Option (Int × Int × Int × ByteArray × Int)) (g11 : Int → Int → Int → ByteArray → Int → Int → Int → ByteArray → Option Bool) (g19 : Int → Int → Option Bool) (s0 : Int → Bool → Int → Int → Int → ByteArray → Int → Int → Int → ByteArray → Int → Int → Int → ByteArray → Option Bool) (s1 : Int → Int → Int → Int → ByteArray → Int → Int → Int → ByteArray → Int → Int → Int → ByteArray → Option Bool) (s2 : Bool → Option Bool) (s3 : Bool → Int → Int → Int → ByteArray → Int → Int → Int → ByteArray → Option Bool) (a0 : Int) (a1 : Int) (a2 : Int) (a3 : ByteArray) (a4 : Int) (ret : Bool → Option β) : Option β := ((g7 a0 a1 a2 a3).bind fun r0 => (bif (r0 == (0 : Int)) then (g8.bind fun r1 => (ret (r1))) else ((g9 a0 a1 a2 a3 a4).bind fun r2 => ((g9 r2.1 r2.2.1 r2.2.2.1 r2.2.2.2.1 a0).bind fun r3 => (bif (r2.2.2.2.2 != (0 : Int)) then ((s0 a4 true a0 a1 a2 a3 r2.1 r2.2.1 r2.2.2.1 r2.2.2.2.1 r3.1 r3.2.1 r3.2.2.1 r3.2.2.2.1).bind ret) else ((s0 a4 (r3.2.2.2.2 != (0 : Int)) a0 a1 a2 a3 r2.1 r2.2.1 r2.2.2.1 r2.2.2.2.1 r3.1 r3.2.1 r3.2.2.1 r3.2.2.2.1).bind ret))))))
def transomlaw07_ConvertBack.s0c {β : Type} (g7 : Int → Int → Int → ByteArray → Option Int) (g8 : Option Bool) (g9 : Int → Int → Int → ByteArray → Int → Option (Int × Int × Int × ByteArray × Int)) (g11 : Int → Int → Int → ByteArray → Int → Int → Int → ByteArray → Option Bool) (g19 : Int → Int → Option Bool) (s0 : Int → Bool → Int → Int → Int → ByteArray → Int → Int → Int → ByteArray → Int → Int → Int → ByteArray → Option Bool) (s1 : Int → Int → Int → Int → ByteArray → Int → Int → Int → ByteArray → Int → Int → Int → ByteArray → Option Bool) (s2 : Bool → Option Bool) (s3 : Bool → Int → Int → Int → ByteArray → Int → Int → Int → ByteArray → Option Bool) (x0 : Int) (x1 : Bool) (x2 : Int) (x3 : Int) (x4 : Int) (x5 : ByteArray) (x6 : Int) (x7 : Int) (x8 : Int) (x9 : ByteArray) (x10 : Int) (x11 : Int) (x12 : Int) (x13 : ByteArray) (ret : Bool → Option β) : Option β := (bif x1 then (g8.bind fun r0 => (ret (r0))) else ((s1 x0 x2 x3 x4 x5 x6 x7 x8 x9 x10 x11 x12 x13).bind ret))
def transomlaw07_ConvertBack.s1c {β : Type} (g7 : Int → Int → Int → ByteArray → Option Int) (g8 : Option Bool) (g9 : Int → Int → Int → ByteArray → Int → Option (Int × Int × Int × ByteArray × Int)) (g11 : Int → Int → Int → ByteArray → Int → Int → Int → ByteArray → Option Bool) (g19 : Int → Int → Option Bool) (s0 : Int → Bool → Int → Int → Int → ByteArray → Int → Int → Int → ByteArray → Int → Int → Int → ByteArray → Option Bool) (s1 : Int → Int → Int → Int → ByteArray → Int → Int → Int → ByteArray → Int → Int → Int → ByteArray → Option Bool) (s2 : Bool → Option Bool) (s3 : Bool → Int → Int → Int → ByteArray → Int → Int → Int → ByteArray → Option Bool) (x0 : Int) (x1 : Int) (x2 : Int) (x3 : Int) (x4 : ByteArray) (x5 : Int) (x6 : Int) (x7 : Int) (x8 : ByteArray) (x9 : Int) (x10 : Int) (x11 : Int) (x12 : ByteArray) (ret : Bool → Option β) : Option β := (bif (x1 == (3 : Int)) then (bif (x9 == (3 : Int)) then (bif (x11 == x3) then (g8.bind fun r0 => ((s2 r0).bind ret)) else ((g19 x11 x3).bind fun r1 => (bif r1 then (g8.bind fun r2 => ((s2 r2).bind ret)) else ((s2 false).bind ret)))) else ((s2 false).bind ret)) else (bif (x1 == (4 : Int)) then (bif (x0 == (3 : Int)) then ((s3 (x7 == (9221120237041090560 : Int)) x1 x2 x3 x4 x9 x10 x11 x12).bind ret) else ((s3 false x1 x2 x3 x4 x9 x10 x11 x12).bind ret)) else ((s3 false x1 x2 x3 x4 x9 x10 x11 x12).bind ret)))
def transomlaw07_ConvertBack.s2c {β : Type} (g7 : Int → Int → Int → ByteArray → Option Int) (g8 : Option Bool) (g9 : Int → Int → Int → ByteArray → Int → Option (Int × Int × Int × ByteArray × Int)) (g11 : Int → Int → Int → ByteArray → Int → Int → Int → ByteArray → Option Bool) (g19 : Int → Int → Option Bool) (s0 : Int → Bool → Int → Int → Int → ByteArray → Int → Int → Int → ByteArray → Int → Int → Int → ByteArray → Option Bool) (s1 : Int → Int → Int → Int → ByteArray → Int → Int → Int → ByteArray → Int → Int → Int → ByteArray → Option Bool) (s2 : Bool → Option Bool) (s3 : Bool → Int → Int → Int → ByteArray → Int → Int → Int → ByteArray → Option Bool) (x0 : Bool) (ret : Bool → Option β) : Option β := (ret (x0))
def transomlaw07_ConvertBack.s3c {β : Type} (g7 : Int → Int → Int → ByteArray → Option Int) (g8 : Option Bool) (g9 : Int → Int → Int → ByteArray → Int → Option (Int × Int × Int × ByteArray × Int)) (g11 : Int → Int → Int → ByteArray → Int → Int → Int → ByteArray → Option Bool) (g19 : Int → Int → Option Bool) (s0 : Int → Bool → Int → Int → Int → ByteArray → Int → Int → Int → ByteArray → Int → Int → Int → ByteArray → Option Bool) (s1 : Int → Int → Int → Int → ByteArray → Int → Int → Int → ByteArray → Int → Int → Int → ByteArray → Option Bool) (s2 : Bool → Option Bool) (s3 : Bool → Int → Int → Int → ByteArray → Int → Int → Int → ByteArray → Option Bool) (x0 : Bool) (x1 : Int) (x2 : Int) (x3 : Int) (x4 : ByteArray) (x5 : Int) (x6 : Int) (x7 : Int) (x8 : ByteArray) (ret : Bool → Option β) : Option β := (bif x0 then (bif (((ByteArray.size x8) : Int) == (8 : Int)) then (g8.bind fun r0 => (ret (r0))) else (ret (false))) else ((g11 x1 x2 x3 x4 x5 x6 x7 x8).bind fun r1 => (bif r1 then (g8.bind fun r2 => (ret (r2))) else (ret (false)))))
theorem transomlaw07_ConvertBack.c_bind {β : Type} (g7 : Int → Int → Int → ByteArray → Option Int) (g8 : Option Bool) (g9 : Int → Int → Int → ByteArray → Int → Option (Int × Int × Int × ByteArray × Int)) (g11 : Int → Int → Int → ByteArray → Int → Int → Int → ByteArray → Option Bool) (g19 : Int → Int → Option Bool) (s0 : Int → Bool → Int → Int → Int → ByteArray → Int → Int → Int → ByteArray → Int → Int → Int → ByteArray → Option Bool) (s1 : Int → Int → Int → Int → ByteArray → Int → Int → Int → ByteArray → Int → Int → Int → ByteArray → Option Bool) (s2 : Bool → Option Bool) (s3 : Bool → Int → Int → Int → ByteArray → Int → Int → Int → ByteArray → Option Bool) (a0 : Int) (a1 : Int) (a2 : Int) (a3 : ByteArray) (a4 : Int) (ret : Bool → Option β) : transomlaw07_ConvertBack.c g7 g8 g9 g11 g19 s0 s1 s2 s3 a0 a1 a2 a3 a4 ret = (transomlaw07_ConvertBack.c g7 g8 g9 g11 g19 s0 s1 s2 s3 a0 a1 a2 a3 a4 some).bind ret := by
  simp only [transomlaw07_ConvertBack.c, bif_bind, sum_bind, Option.bind_assoc, Option.bind_some, Option.bind_none, Option.bind_fun_some]
theorem transomlaw07_ConvertBack.s0c_bind {β : Type} (g7 : Int → Int → Int → ByteArray → Option Int) (g8 : Option Bool) (g9 : Int → Int → Int → ByteArray → Int → Option (Int × Int × Int × ByteArray × Int)) (g11 : Int → Int → Int → ByteArray → Int → Int → Int → ByteArray → Option Bool) (g19 : Int → Int → Option Bool) (s0 : Int → Bool → Int → Int → Int → ByteArray → Int → Int → Int → ByteArray → Int → Int → Int → ByteArray → Option Bool) (s1 : Int → Int → Int → Int → ByteArray → Int → Int → Int → ByteArray → Int → Int → Int → ByteArray → Option Bool) (s2 : Bool → Option Bool) (s3 : Bool → Int → Int → Int → ByteArray → Int → Int → Int → ByteArray → Option Bool) (x0 : Int) (x1 : Bool) (x2 : Int) (x3 : Int) (x4 : Int) (x5 : ByteArray) (x6 : Int) (x7 : Int) (x8 : Int) (x9 : ByteArray) (x10 : Int) (x11 : Int) (x12 : Int) (x13 : ByteArray) (ret : Bool → Option β) : transomlaw07_ConvertBack.s0c g7 g8 g9 g11 g19 s0 s1 s2 s3 x0 x1 x2 x3 x4 x5 x6 x7 x8 x9 x10 x11 x12 x13 ret = (transomlaw07_ConvertBack.s0c g7 g8 g9 g11 g19 s0 s1 s2 s3 x0 x1 x2 x3 x4 x5 x6 x7 x8 x9 x10 x11 x12 x13 some).bind ret := by
  simp only [transomlaw07_ConvertBack.s0c, bif_bind, sum_bind, Option.bind_assoc, Option.bind_some, Option.bind_none, Option.bind_fun_some]
theorem transomlaw07_ConvertBack.s1c_bind {β : Type} (g7 : Int → Int → Int → ByteArray → Option Int) (g8 : Option Bool) (g9 : Int → Int → Int → ByteArray → Int → Option (Int × Int × Int × ByteArray × Int)) (g11 : Int → Int → Int → ByteArray → Int → Int → Int → ByteArray → Option Bool) (g19 : Int → Int → Option Bool) (s0 : Int → Bool → Int → Int → Int → ByteArray → Int → Int → Int → ByteArray → Int → Int → Int → ByteArray → Option Bool) (s1 : Int → Int → Int → Int → ByteArray → Int → Int → Int → ByteArray → Int → Int → Int → ByteArray → Option Bool) (s2 : Bool → Option Bool) (s3 : Bool → Int → Int → Int → ByteArray → Int → Int → Int → ByteArray → Option Bool) (x0 : Int) (x1 : Int) (x2 : Int) (x3 : Int) (x4 : ByteArray) (x5 : Int) (x6 : Int) (x7 : Int) (x8 : ByteArray) (x9 : Int) (x10 : Int) (x11 : Int) (x12 : ByteArray) (ret : Bool → Option β) : transomlaw07_ConvertBack.s1c g7 g8 g9 g11 g19 s0 s1 s2 s3 x0 x1 x2 x3 x4 x5 x6 x7 x8 x9 x10 x11 x12 ret = (transomlaw07_ConvertBack.s1c g7 g8 g9 g11 g19 s0 s1 s2 s3 x0 x1 x2 x3 x4 x5 x6 x7 x8 x9 x10 x11 x12 some).bind ret := by
  simp only [transomlaw07_ConvertBack.s1c, bif_bind, sum_bind, Option.bind_assoc, Option.bind_some, Option.bind_none, Option.bind_fun_some]
theorem transomlaw07_ConvertBack.s2c_bind {β : Type} (g7 : Int → Int → Int → ByteArray → Option Int) (g8 : Option Bool) (g9 : Int → Int → Int → ByteArray → Int → Option (Int × Int × Int × ByteArray × Int)) (g11 : Int → Int → Int → ByteArray → Int → Int → Int → ByteArray → Option Bool) (g19 : Int → Int → Option Bool) (s0 : Int → Bool → Int → Int → Int → ByteArray → Int → Int → Int → ByteArray → Int → Int → Int → ByteArray → Option Bool) (s1 : Int → Int → Int → Int → ByteArray → Int → Int → Int → ByteArray → Int → Int → Int → ByteArray → Option Bool) (s2 : Bool → Option Bool) (s3 : Bool → Int → Int → Int → ByteArray → Int → Int → Int → ByteArray → Option Bool) (x0 : Bool) (ret : Bool → Option β) : transomlaw07_ConvertBack.s2c g7 g8 g9 g11 g19 s0 s1 s2 s3 x0 ret = (transomlaw07_ConvertBack.s2c g7 g8 g9 g11 g19 s0 s1 s2 s3 x0 some).bind ret := by
  simp only [transomlaw07_ConvertBack.s2c, bif_bind, sum_bind, Option.bind_assoc, Option.bind_some, Option.bind_none, Option.bind_fun_some]
theorem transomlaw07_ConvertBack.s3c_bind {β : Type} (g7 : Int → Int → Int → ByteArray → Option Int) (g8 : Option Bool) (g9 : Int → Int → Int → ByteArray → Int → Option (Int × Int × Int × ByteArray × Int)) (g11 : Int → Int → Int → ByteArray → Int → Int → Int → ByteArray → Option Bool) (g19 : Int → Int → Option Bool) (s0 : Int → Bool → Int → Int → Int → ByteArray → Int → Int → Int → ByteArray → Int → Int → Int → ByteArray → Option Bool) (s1 : Int → Int → Int → Int → ByteArray → Int → Int → Int → ByteArray → Int → Int → Int → ByteArray → Option Bool) (s2 : Bool → Option Bool) (s3 : Bool → Int → Int → Int → ByteArray → Int → Int → Int → ByteArray → Option Bool) (x0 : Bool) (x1 : Int) (x2 : Int) (x3 : Int) (x4 : ByteArray) (x5 : Int) (x6 : Int) (x7 : Int) (x8 : ByteArray) (ret : Bool → Option β) : transomlaw07_ConvertBack.s3c g7 g8 g9 g11 g19 s0 s1 s2 s3 x0 x1 x2 x3 x4 x5 x6 x7 x8 ret = (transomlaw07_ConvertBack.s3c g7 g8 g9 g11 g19 s0 s1 s2 s3 x0 x1 x2 x3 x4 x5 x6 x7 x8 some).bind ret := by
  simp only [transomlaw07_ConvertBack.s3c, bif_bind, sum_bind, Option.bind_assoc, Option.bind_some, Option.bind_none, Option.bind_fun_some]
theorem transomlaw07_ConvertBack.ev (g7 : Int → Int → Int → ByteArray → Option Int) (g8 : Option Bool) (g9 : Int → Int → Int → ByteArray → Int → Option (Int × Int × Int × ByteArray × Int)) (g11 : Int → Int → Int → ByteArray → Int → Int → Int → ByteArray → Option Bool) (g19 : Int → Int → Option Bool) (s0 : Int → Bool → Int → Int → Int → ByteArray → Int → Int → Int → ByteArray → Int → Int → Int → ByteArray → Option Bool) (s1 : Int → Int → Int → Int → ByteArray → Int → Int → Int → ByteArray → Int → Int → Int → ByteArray → Option Bool) (s2 : Bool → Option Bool) (s3 : Bool → Int → Int → Int → ByteArray → Int → Int → Int → ByteArray → Option Bool) (a0 : Int) (a1 : Int) (a2 : Int) (a3 : ByteArray) (a4 : Int) : evAt (env_transomlaw07_ConvertBack g7 g8 g9 g11 g19 s0 s1 s2 s3) [] [0, 1] [.v (.agg [(.d (.int .i64) a0), (.d (.int .i64) a1), (.d (.int .u64) a2), (.d .str a3)]), .v (.one (.d (.int .i64) a4))] [] some = transomlaw07_ConvertBack.c g7 g8 g9 g11 g19 s0 s1 s2 s3 a0 a1 a2 a3 a4 (fun r => some ⟨.v (.one (.d .bool r)), []⟩) := by
  kernel_rfl
theorem transomlaw07_ConvertBack.s0_ev (g7 : Int → Int → Int → ByteArray → Option Int) (g8 : Option Bool) (g9 : Int → Int → Int → ByteArray → Int → Option (Int × Int × Int × ByteArray × Int)) (g11 : Int → Int → Int → ByteArray → Int → Int → Int → ByteArray → Option Bool) (g19 : Int → Int → Option Bool) (s0 : Int → Bool → Int → Int → Int → ByteArray → Int → Int → Int → ByteArray → Int → Int → Int → ByteArray → Option Bool) (s1 : Int → Int → Int → Int → ByteArray → Int → Int → Int → ByteArray → Int → Int → Int → ByteArray → Option Bool) (s2 : Bool → Option Bool) (s3 : Bool → Int → Int → Int → ByteArray → Int → Int → Int → ByteArray → Option Bool) (x0 : Int) (x1 : Bool) (x2 : Int) (x3 : Int) (x4 : Int) (x5 : ByteArray) (x6 : Int) (x7 : Int) (x8 : Int) (x9 : ByteArray) (x10 : Int) (x11 : Int) (x12 : Int) (x13 : ByteArray) : evAt (env_transomlaw07_ConvertBack g7 g8 g9 g11 g19 s0 s1 s2 s3) [1, 0, 1, 1, 1, 1] [1, 2, 5, 7, 31] [.v (.one (.d (.int .i64) x0)), .v (.one (.ptr 0 0)), .v (.one (.ptr 1 0)), .v (.one (.ptr 2 0)), .v (.one (.d .bool x1))] [some (.box [(.d (.int .i64) x2), (.d (.int .i64) x3), (.d (.int .u64) x4), (.d .str x5)]), some (.box [(.d (.int .i64) x6), (.d (.int .i64) x7), (.d (.int .u64) x8), (.d .str x9)]), some (.box [(.d (.int .i64) x10), (.d (.int .i64) x11), (.d (.int .u64) x12), (.d .str x13)])] some = transomlaw07_ConvertBack.s0c g7 g8 g9 g11 g19 s0 s1 s2 s3 x0 x1 x2 x3 x4 x5 x6 x7 x8 x9 x10 x11 x12 x13 (fun r => some ⟨.v (.one (.d .bool r)), []⟩) := by
  kernel_rfl
theorem transomlaw07_ConvertBack.s1_ev (g7 : Int → Int → Int → ByteArray → Option Int) (g8 : Option Bool) (g9 : Int → Int → Int → ByteArray → Int → Option (Int × Int × Int × ByteArray × Int)) (g11 : Int → Int → Int → ByteArray → Int → Int → Int → ByteArray → Option Bool) (g19 : Int → Int → Option Bool) (s0 : Int → Bool → Int → Int → Int → ByteArray → Int → Int → Int → ByteArray → Int → Int → Int → ByteArray → Option Bool) (s1 : Int → Int → Int → Int → ByteArray → Int → Int → Int → ByteArray → Int → Int → Int → ByteArray → Option Bool) (s2 : Bool → Option Bool) (s3 : Bool → Int → Int → Int → ByteArray → Int → Int → Int → ByteArray → Option Bool) (x0 : Int) (x1 : Int) (x2 : Int) (x3 : Int) (x4 : ByteArray) (x5 : Int) (x6 : Int) (x7 : Int) (x8 : ByteArray) (x9 : Int) (x10 : Int) (x11 : Int) (x12 : ByteArray) : evAt (env_transomlaw07_ConvertBack g7 g8 g9 g11 g19 s0 s1 s2 s3) [1, 1, 1, 1, 1] [1, 2, 5, 7] [.v (.one (.d (.int .i64) x0)), .v (.one (.ptr 0 0)), .v (.one (.ptr 1 0)), .v (.one (.ptr 2 0))] [some (.box [(.d (.int .i64) x1), (.d (.int .i64) x2), (.d (.int .u64) x3), (.d .str x4)]), some (.box [(.d (.int .i64) x5), (.d (.int .i64) x6), (.d (.int .u64) x7), (.d .str x8)]), some (.box [(.d (.int .i64) x9), (.d (.int .i64) x10), (.d (.int .u64) x11), (.d .str x12)])] some = transomlaw07_ConvertBack.s1c g7 g8 g9 g11 g19 s0 s1 s2 s3 x0 x1 x2 x3 x4 x5 x6 x7 x8 x9 x10 x11 x12 (fun r => some ⟨.v (.one (.d .bool r)), []⟩) := by
  kernel_rfl
theorem transomlaw07_ConvertBack.s2_ev (g7 : Int → Int → Int → ByteArray → Option Int) (g8 : Option Bool) (g9 : Int → Int → Int → ByteArray → Int → Option (Int × Int × Int × ByteArray × Int)) (g11 : Int → Int → Int → ByteArray → Int → Int → Int → ByteArray → Option Bool) (g19 : Int → Int → Option Bool) (s0 : Int → Bool → Int → Int → Int → ByteArray → Int → Int → Int → ByteArray → Int → Int → Int → ByteArray → Option Bool) (s1 : Int → Int → Int → Int → ByteArray → Int → Int → Int → ByteArray → Int → Int → Int → ByteArray → Option Bool) (s2 : Bool → Option Bool) (s3 : Bool → Int → Int → Int → ByteArray → Int → Int → Int → ByteArray → Option Bool) (x0 : Bool) : evAt (env_transomlaw07_ConvertBack g7 g8 g9 g11 g19 s0 s1 s2 s3) [1, 2, 1, 0, 1, 1, 1, 1, 1] [4] [.v (.one (.d .bool x0))] [] some = transomlaw07_ConvertBack.s2c g7 g8 g9 g11 g19 s0 s1 s2 s3 x0 (fun r => some ⟨.v (.one (.d .bool r)), []⟩) := by
  kernel_rfl
theorem transomlaw07_ConvertBack.s3_ev (g7 : Int → Int → Int → ByteArray → Option Int) (g8 : Option Bool) (g9 : Int → Int → Int → ByteArray → Int → Option (Int × Int × Int × ByteArray × Int)) (g11 : Int → Int → Int → ByteArray → Int → Int → Int → ByteArray → Option Bool) (g19 : Int → Int → Option Bool) (s0 : Int → Bool → Int → Int → Int → ByteArray → Int → Int → Int → ByteArray → Int → Int → Int → ByteArray → Option Bool) (s1 : Int → Int → Int → Int → ByteArray → Int → Int → Int → ByteArray → Int → Int → Int → ByteArray → Option Bool) (s2 : Bool → Option Bool) (s3 : Bool → Int → Int → Int → ByteArray → Int → Int → Int → ByteArray → Option Bool) (x0 : Bool) (x1 : Int) (x2 : Int) (x3 : Int) (x4 : ByteArray) (x5 : Int) (x6 : Int) (x7 : Int) (x8 : ByteArray) : evAt (env_transomlaw07_ConvertBack g7 g8 g9 g11 g19 s0 s1 s2 s3) [1, 0, 1, 1, 1, 1, 1, 1] [2, 7, 67] [.v (.one (.ptr 0 0)), .v (.one (.ptr 1 0)), .v (.one (.d .bool x0))] [some (.box [(.d (.int .i64) x1), (.d (.int .i64) x2), (.d (.int .u64) x3), (.d .str x4)]), some (.box [(.d (.int .i64) x5), (.d (.int .i64) x6), (.d (.int .u64) x7), (.d .str x8)])] some = transomlaw07_ConvertBack.s3c g7 g8 g9 g11 g19 s0 s1 s2 s3 x0 x1 x2 x3 x4 x5 x6 x7 x8 (fun r => some ⟨.v (.one (.d .bool r)), []⟩) := by
  kernel_rfl
mutual
def transomlaw07_ConvertBack.s0 : Nat → Int → Bool → Int → Int → Int → ByteArray → Int → Int → Int → ByteArray → Int → Int → Int → ByteArray → Option Bool
  | 0, _, _, _, _, _, _, _, _, _, _, _, _, _, _ => none
  | k + 1, x0, x1, x2, x3, x4, x5, x6, x7, x8, x9, x10, x11, x12, x13 => transomlaw07_ConvertBack.s0c (transomlaw04_Few.f k) (transomlaw07_awake.f k) (convert_To.f k) (transomref04_Same.f k) (transomref02_Equal.f k) (transomlaw07_ConvertBack.s0 k) (transomlaw07_ConvertBack.s1 k) (transomlaw07_ConvertBack.s2 k) (transomlaw07_ConvertBack.s3 k) x0 x1 x2 x3 x4 x5 x6 x7 x8 x9 x10 x11 x12 x13 some
def transomlaw07_ConvertBack.s1 : Nat → Int → Int → Int → Int → ByteArray → Int → Int → Int → ByteArray → Int → Int → Int → ByteArray → Option Bool
  | 0, _, _, _, _, _, _, _, _, _, _, _, _, _ => none
  | k + 1, x0, x1, x2, x3, x4, x5, x6, x7, x8, x9, x10, x11, x12 => transomlaw07_ConvertBack.s1c (transomlaw04_Few.f k) (transomlaw07_awake.f k) (convert_To.f k) (transomref04_Same.f k) (transomref02_Equal.f k) (transomlaw07_ConvertBack.s0 k) (transomlaw07_ConvertBack.s1 k) (transomlaw07_ConvertBack.s2 k) (transomlaw07_ConvertBack.s3 k) x0 x1 x2 x3 x4 x5 x6 x7 x8 x9 x10 x11 x12 some
def transomlaw07_ConvertBack.s2 : Nat → Bool → Option Bool
  | 0, _ => none
  | k + 1, x0 => transomlaw07_ConvertBack.s2c (transomlaw04_Few.f k) (transomlaw07_awake.f k) (convert_To.f k) (transomref04_Same.f k) (transomref02_Equal.f k) (transomlaw07_ConvertBack.s0 k) (transomlaw07_ConvertBack.s1 k) (transomlaw07_ConvertBack.s2 k) (transomlaw07_ConvertBack.s3 k) x0 some
def transomlaw07_ConvertBack.s3 : Nat → Bool → Int → Int → Int → ByteArray → Int → Int → Int → ByteArray → Option Bool
  | 0, _, _, _, _, _, _, _, _, _ => none
  | k + 1, x0, x1, x2, x3, x4, x5, x6, x7, x8 => transomlaw07_ConvertBack.s3c (transomlaw04_Few.f k) (transomlaw07_awake.f k) (convert_To.f k) (transomref04_Same.f k) (transomref02_Equal.f k) (transomlaw07_ConvertBack.s0 k) (transomlaw07_ConvertBack.s1 k) (transomlaw07_ConvertBack.s2 k) (transomlaw07_ConvertBack.s3 k) x0 x1 x2 x3 x4 x5 x6 x7 x8 some
end
def transomlaw07_ConvertBack.f (k : Nat) (a0 : Int) (a1 : Int) (a2 : Int) (a3 : ByteArray) (a4 : Int) : Option Bool := transomlaw07_ConvertBack.c (transomlaw04_Few.f k) (transomlaw07_awake.f k) (convert_To.f k) (transomref04_Same.f k) (transomref02_Equal.f k) (transomlaw07_ConvertBack.s0 k) (transomlaw07_ConvertBack.s1 k) (transomlaw07_ConvertBack.s2 k) (transomlaw07_ConvertBack.s3 k) a0 a1 a2 a3 a4 some
theorem transomlaw07_ConvertBack.is (g7 : Int → Int → Int → ByteArray → Option Int) (g8 : Option Bool) (g9 : Int → Int → Int → ByteArray → Int → Option (Int × Int × Int × ByteArray × Int)) (g11 : Int → Int → Int → ByteArray → Int → Int → Int → ByteArray → Option Bool) (g19 : Int → Int → Option Bool) (s0 : Int → Bool → Int → Int → Int → ByteArray → Int → Int → Int → ByteArray → Int → Int → Int → ByteArray → Option Bool) (s1 : Int → Int → Int → Int → ByteArray → Int → Int → Int → ByteArray → Int → Int → Int → ByteArray → Option Bool) (s2 : Bool → Option Bool) (s3 : Bool → Int → Int → Int → ByteArray → Int → Int → Int → ByteArray → Option Bool) : FnIs (env_transomlaw07_ConvertBack g7 g8 g9 g11 g19 s0 s1 s2 s3) 6 Go.Proofs.Try.f6 := ⟨Go.Proofs.Try.func6, rfl, rfl, rfl, by decide⟩
theorem transomlaw07_ConvertBack.envok (g7 : Int → Int → Int → ByteArray → Option Int) (g8 : Option Bool) (g9 : Int → Int → Int → ByteArray → Int → Option (Int × Int × Int × ByteArray × Int)) (g11 : Int → Int → Int → ByteArray → Int → Int → Int → ByteArray → Option Bool) (g19 : Int → Int → Option Bool) (s0 : Int → Bool → Int → Int → Int → ByteArray → Int → Int → Int → ByteArray → Int → Int → Int → ByteArray → Option Bool) (s1 : Int → Int → Int → Int → ByteArray → Int → Int → Int → ByteArray → Int → Int → Int → ByteArray → Option Bool) (s2 : Bool → Option Bool) (s3 : Bool → Int → Int → Int → ByteArray → Int → Int → Int → ByteArray → Option Bool) (h7 : CtOK Go.Proofs.Try.prog 7 (ct_transomlaw04_Few g7)) (h8 : CtOK Go.Proofs.Try.prog 8 (ct_transomlaw07_awake g8)) (h9 : CtOK Go.Proofs.Try.prog 9 (ct_convert_To g9)) (h11 : CtOK Go.Proofs.Try.prog 11 (ct_transomref04_Same g11)) (h19 : CtOK Go.Proofs.Try.prog 19 (ct_transomref02_Equal g19)) : EnvOK (env_transomlaw07_ConvertBack g7 g8 g9 g11 g19 s0 s1 s2 s3).toEnv := by
  intro f c h
  simp only [env_transomlaw07_ConvertBack] at h
  split at h
  · rename_i e; subst e; cases h; exact h7
  split at h
  · rename_i e; subst e; cases h; exact h8
  split at h
  · rename_i e; subst e; cases h; exact h9
  split at h
  · rename_i e; subst e; cases h; exact h11
  split at h
  · rename_i e; subst e; cases h; exact h19
  simp at h
theorem transomlaw07_ConvertBack.segs_ok : ∀ k, ∀ s ∈ (env_transomlaw07_ConvertBack (transomlaw04_Few.f k) (transomlaw07_awake.f k) (convert_To.f k) (transomref04_Same.f k) (transomref02_Equal.f k) (transomlaw07_ConvertBack.s0 k) (transomlaw07_ConvertBack.s1 k) (transomlaw07_ConvertBack.s2 k) (transomlaw07_ConvertBack.s3 k)).segs, SegOK (env_transomlaw07_ConvertBack (transomlaw04_Few.f k) (transomlaw07_awake.f k) (convert_To.f k) (transomref04_Same.f k) (transomref02_Equal.f k) (transomlaw07_ConvertBack.s0 k) (transomlaw07_ConvertBack.s1 k) (transomlaw07_ConvertBack.s2 k) (transomlaw07_ConvertBack.s3 k)) Go.Proofs.Try.f6 s
  | 0 => by
    intro s hs
    simp only [env_transomlaw07_ConvertBack, List.mem_cons, List.not_mem_nil, or_false] at hs
    rcases hs with rfl | rfl | rfl | rfl
    · intro tvs blks res h; exfalso; simp only [seg_transomlaw07_ConvertBack_0] at h; split at h <;> simp [transomlaw07_ConvertBack.s0] at h
    · intro tvs blks res h; exfalso; simp only [seg_transomlaw07_ConvertBack_1] at h; split at h <;> simp [transomlaw07_ConvertBack.s1] at h
    · intro tvs blks res h; exfalso; simp only [seg_transomlaw07_ConvertBack_2] at h; split at h <;> simp [transomlaw07_ConvertBack.s2] at h
    · intro tvs blks res h; exfalso; simp only [seg_transomlaw07_ConvertBack_3] at h; split at h <;> simp [transomlaw07_ConvertBack.s3] at h
  | k + 1 => by
    have ih := transomlaw07_ConvertBack.segs_ok k
    intro s hs
    simp only [env_transomlaw07_ConvertBack, List.mem_cons, List.not_mem_nil, or_false] at hs
    rcases hs with rfl | rfl | rfl | rfl
    · refine seg_of_ev (E := env_transomlaw07_ConvertBack (transomlaw04_Few.f k) (transomlaw07_awake.f k) (convert_To.f k) (transomref04_Same.f k) (transomref02_Equal.f k) (transomlaw07_ConvertBack.s0 k) (transomlaw07_ConvertBack.s1 k) (transomlaw07_ConvertBack.s2 k) (transomlaw07_ConvertBack.s3 k)) (transomlaw07_ConvertBack.envok _ _ _ _ _ _ _ _ _  (transomlaw04_Few.ok k) (transomlaw07_awake.ok k) (convert_To.ok k) (transomref04_Same.ok k) (transomref02_Equal.ok k)) ⟨(transomlaw07_ConvertBack.is (transomlaw04_Few.f k) (transomlaw07_awake.f k) (convert_To.f k) (transomref04_Same.f k) (transomref02_Equal.f k) (transomlaw07_ConvertBack.s0 k) (transomlaw07_ConvertBack.s1 k) (transomlaw07_ConvertBack.s2 k) (transomlaw07_ConvertBack.s3 k)).rvs⟩ ih ?_
      intro tvs blks res h
      simp only [seg_transomlaw07_ConvertBack_0] at h
      split at h
      · refine (transomlaw07_ConvertBack.s0_ev (transomlaw04_Few.f k) (transomlaw07_awake.f k) (convert_To.f k) (transomref04_Same.f k) (transomref02_Equal.f k) (transomlaw07_ConvertBack.s0 k) (transomlaw07_ConvertBack.s1 k) (transomlaw07_ConvertBack.s2 k) (transomlaw07_ConvertBack.s3 k) _ _ _ _ _ _ _ _ _ _ _ _ _ _ ).trans ?_
        rw [transomlaw07_ConvertBack.s0c_bind]
        exact h
      · simp at h
    · refine seg_of_ev (E := env_transomlaw07_ConvertBack (transomlaw04_Few.f k) (transomlaw07_awake.f k) (convert_To.f k) (transomref04_Same.f k) (transomref02_Equal.f k) (transomlaw07_ConvertBack.s0 k) (transomlaw07_ConvertBack.s1 k) (transomlaw07_ConvertBack.s2 k) (transomlaw07_ConvertBack.s3 k)) (transomlaw07_ConvertBack.envok _ _ _ _ _ _ _ _ _  (transomlaw04_Few.ok k) (transomlaw07_awake.ok k) (convert_To.ok k) (transomref04_Same.ok k) (transomref02_Equal.ok k)) ⟨(transomlaw07_ConvertBack.is (transomlaw04_Few.f k) (transomlaw07_awake.f k) (convert_To.f k) (transomref04_Same.f k) (transomref02_Equal.f k) (transomlaw07_ConvertBack.s0 k) (transomlaw07_ConvertBack.s1 k) (transomlaw07_ConvertBack.s2 k) (transomlaw07_ConvertBack.s3 k)).rvs⟩ ih ?_
      intro tvs blks res h
      simp only [seg_transomlaw07_ConvertBack_1] at h
      split at h
      · refine (transomlaw07_ConvertBack.s1_ev (transomlaw04_Few.f k) (transomlaw07_awake.f k) (convert_To.f k) (transomref04_Same.f k) (transomref02_Equal.f k) (transomlaw07_ConvertBack.s0 k) (transomlaw07_ConvertBack.s1 k) (transomlaw07_ConvertBack.s2 k) (transomlaw07_ConvertBack.s3 k) _ _ _ _ _ _ _ _ _ _ _ _ _ ).trans ?_
        rw [transomlaw07_ConvertBack.s1c_bind]
        exact h
      · simp at h
    · refine seg_of_ev (E := env_transomlaw07_ConvertBack (transomlaw04_Few.f k) (transomlaw07_awake.f k) (convert_To.f k) (transomref04_Same.f k) (transomref02_Equal.f k) (transomlaw07_ConvertBack.s0 k) (transomlaw07_ConvertBack.s1 k) (transomlaw07_ConvertBack.s2 k) (transomlaw07_ConvertBack.s3 k)) (transomlaw07_ConvertBack.envok _ _ _ _ _ _ _ _ _  (transomlaw04_Few.ok k) (transomlaw07_awake.ok k) (convert_To.ok k) (transomref04_Same.ok k) (transomref02_Equal.ok k)) ⟨(transomlaw07_ConvertBack.is (transomlaw04_Few.f k) (transomlaw07_awake.f k) (convert_To.f k) (transomref04_Same.f k) (transomref02_Equal.f k) (transomlaw07_ConvertBack.s0 k) (transomlaw07_ConvertBack.s1 k) (transomlaw07_ConvertBack.s2 k) (transomlaw07_ConvertBack.s3 k)).rvs⟩ ih ?_
      intro tvs blks res h
      simp only [seg_transomlaw07_ConvertBack_2] at h
      split at h
      · refine (transomlaw07_ConvertBack.s2_ev (transomlaw04_Few.f k) (transomlaw07_awake.f k) (convert_To.f k) (transomref04_Same.f k) (transomref02_Equal.f k) (transomlaw07_ConvertBack.s0 k) (transomlaw07_ConvertBack.s1 k) (transomlaw07_ConvertBack.s2 k) (transomlaw07_ConvertBack.s3 k) _ ).trans ?_
        rw [transomlaw07_ConvertBack.s2c_bind]
        exact h
      · simp at h
    · refine seg_of_ev (E := env_transomlaw07_ConvertBack (transomlaw04_Few.f k) (transomlaw07_awake.f k) (convert_To.f k) (transomref04_Same.f k) (transomref02_Equal.f k) (transomlaw07_ConvertBack.s0 k) (transomlaw07_ConvertBack.s1 k) (transomlaw07_ConvertBack.s2 k) (transomlaw07_ConvertBack.s3 k)) (transomlaw07_ConvertBack.envok _ _ _ _ _ _ _ _ _  (transomlaw04_Few.ok k) (transomlaw07_awake.ok k) (convert_To.ok k) (transomref04_Same.ok k) (transomref02_Equal.ok k)) ⟨(transomlaw07_ConvertBack.is (transomlaw04_Few.f k) (transomlaw07_awake.f k) (convert_To.f k) (transomref04_Same.f k) (transomref02_Equal.f k) (transomlaw07_ConvertBack.s0 k) (transomlaw07_ConvertBack.s1 k) (transomlaw07_ConvertBack.s2 k) (transomlaw07_ConvertBack.s3 k)).rvs⟩ ih ?_
      intro tvs blks res h
      simp only [seg_transomlaw07_ConvertBack_3] at h
      split at h
      · refine (transomlaw07_ConvertBack.s3_ev (transomlaw04_Few.f k) (transomlaw07_awake.f k) (convert_To.f k) (transomref04_Same.f k) (transomref02_Equal.f k) (transomlaw07_ConvertBack.s0 k) (transomlaw07_ConvertBack.s1 k) (transomlaw07_ConvertBack.s2 k) (transomlaw07_ConvertBack.s3 k) _ _ _ _ _ _ _ _ _ ).trans ?_
        rw [transomlaw07_ConvertBack.s3c_bind]
        exact h
      · simp at h
theorem transomlaw07_ConvertBack.ok (k : Nat) : CtOK Go.Proofs.Try.prog 6 (ct_transomlaw07_ConvertBack (transomlaw07_ConvertBack.f k)) := by
  refine ct_of_ev (E := env_transomlaw07_ConvertBack (transomlaw04_Few.f k) (transomlaw07_awake.f k) (convert_To.f k) (transomref04_Same.f k) (transomref02_Equal.f k) (transomlaw07_ConvertBack.s0 k) (transomlaw07_ConvertBack.s1 k) (transomlaw07_ConvertBack.s2 k) (transomlaw07_ConvertBack.s3 k)) (transomlaw07_ConvertBack.is _ _ _ _ _ _ _ _ _ ) (transomlaw07_ConvertBack.envok _ _ _ _ _ _ _ _ _  (transomlaw04_Few.ok k) (transomlaw07_awake.ok k) (convert_To.ok k) (transomref04_Same.ok k) (transomref02_Equal.ok k)) (transomlaw07_ConvertBack.segs_ok k) rfl ?_
  intro tvs blks res h
  simp only [ct_transomlaw07_ConvertBack] at h
  split at h
  · refine (transomlaw07_ConvertBack.ev (transomlaw04_Few.f k) (transomlaw07_awake.f k) (convert_To.f k) (transomref04_Same.f k) (transomref02_Equal.f k) (transomlaw07_ConvertBack.s0 k) (transomlaw07_ConvertBack.s1 k) (transomlaw07_ConvertBack.s2 k) (transomlaw07_ConvertBack.s3 k) _ _ _ _ _ ).trans ?_
    rw [transomlaw07_ConvertBack.c_bind]
    exact h
  · simp at h
end Go.Proofs.Ytndkobhclggeiaa.Aev
