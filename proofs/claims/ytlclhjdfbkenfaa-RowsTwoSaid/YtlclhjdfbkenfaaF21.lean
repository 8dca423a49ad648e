/- By a program of this session (AEV): functions of the program as plain functions, and that the machine does what they say. -/
import Derived.Test.YtlclhjdfbkenfaaAevW
import Derived.Test.YtlclhjdfbkenfaaProg
import Derived.Laws.Externs
import Derived.Lib.Bytealg
import Derived.Test.YtlclhjdfbkenfaaF0
import Derived.Test.YtlclhjdfbkenfaaF8
import Derived.Test.YtlclhjdfbkenfaaF15
import Derived.Test.YtlclhjdfbkenfaaF20
namespace Go.Proofs.Ytlclhjdfbkenfaa.Aev
set_option linter.unusedVariables false
set_option linter.unusedSimpArgs false
set_option maxRecDepth 100000
set_option maxHeartbeats 4000000
open Go
/-! ### transomlaw06_RowsTwo: function 7 -/
def ct_transomlaw06_RowsTwo (g : (List (Int × (Int × (Int × (ByteArray × Unit))))) → (List (Int × (Int × (Int × (ByteArray × Unit))))) → Option Bool) : Ct where
  nin := 0
  mv := []
  F := fun tvs blks {β} K => match tvs, blks with
    | [.v (.one (.d (.sl (.pair (.int .i64) (.pair (.int .i64) (.pair (.int .u64) (.pair .str .unit))))) a0)), .v (.one (.d (.sl (.pair (.int .i64) (.pair (.int .i64) (.pair (.int .u64) (.pair .str .unit))))) a1))], [] => (g a0 a1).bind fun r => K ⟨.v (.one (.d .bool r)), []⟩
    | _, _ => none
  legit := fun tvs blks K r h => by
    split at h
    · obtain ⟨x, hx, hk⟩ := Option.bind_eq_some_iff.1 h
      refine ⟨_, ?_, hk⟩
      simp only [hx, Option.bind_some]
    · simp at h
def seg_transomlaw06_RowsTwo_0 (g : (List (Int × (Int × (Int × (ByteArray × Unit))))) → (List (Int × (Int × (Int × (ByteArray × Unit))))) → Bool → Option Bool) : Seg where
  path := [1, 0, 1]
  prep := []
  keep := [0, 1, 12]
  F := fun tvs blks {β} K => match tvs, blks with
    | [.v (.one (.d (.sl (.pair (.int .i64) (.pair (.int .i64) (.pair (.int .u64) (.pair .str .unit))))) x0)), .v (.one (.d (.sl (.pair (.int .i64) (.pair (.int .i64) (.pair (.int .u64) (.pair .str .unit))))) x1)), .v (.one (.d .bool x2))], [] => (g x0 x1 x2).bind fun r => K ⟨.v (.one (.d .bool r)), []⟩
    | _, _ => none
  legit := fun tvs blks K r h => by
    split at h
    · obtain ⟨x, hx, hk⟩ := Option.bind_eq_some_iff.1 h
      refine ⟨_, ?_, hk⟩
      simp only [hx, Option.bind_some]
    · simp at h
def seg_transomlaw06_RowsTwo_1 (g : (List (Int × (Int × (Int × (ByteArray × Unit))))) → (List (Int × (Int × (Int × (ByteArray × Unit))))) → Option Bool) : Seg where
  path := [1, 1]
  prep := []
  keep := [0, 1]
  F := fun tvs blks {β} K => match tvs, blks with
    | [.v (.one (.d (.sl (.pair (.int .i64) (.pair (.int .i64) (.pair (.int .u64) (.pair .str .unit))))) x0)), .v (.one (.d (.sl (.pair (.int .i64) (.pair (.int .i64) (.pair (.int .u64) (.pair .str .unit))))) x1))], [] => (g x0 x1).bind fun r => K ⟨.v (.one (.d .bool r)), []⟩
    | _, _ => none
  legit := fun tvs blks K r h => by
    split at h
    · obtain ⟨x, hx, hk⟩ := Option.bind_eq_some_iff.1 h
      refine ⟨_, ?_, hk⟩
      simp only [hx, Option.bind_some]
    · simp at h
noncomputable def env_transomlaw06_RowsTwo (g8 : (List (Int × (Int × (Int × (ByteArray × Unit))))) → Option Int) (g9 : Option Bool) (g14 : (List (Int × (Int × (Int × (ByteArray × Unit))))) → (List (Int × (Int × (Int × (ByteArray × Unit))))) → Option Bool) (g17 : (List (Int × (Int × (Int × (ByteArray × Unit))))) → (List (Int × (Int × (Int × (ByteArray × Unit))))) → Option Bool) (g18 : (List (Int × (Int × (Int × (ByteArray × Unit))))) → (List (Int × (Int × (Int × (ByteArray × Unit))))) → Option Int) (g19 : (List (Int × (Int × (Int × (ByteArray × Unit))))) → (List (Int × (Int × (Int × (ByteArray × Unit))))) → Option Int) (s0 : (List (Int × (Int × (Int × (ByteArray × Unit))))) → (List (Int × (Int × (Int × (ByteArray × Unit))))) → Bool → Option Bool) (s1 : (List (Int × (Int × (Int × (ByteArray × Unit))))) → (List (Int × (Int × (Int × (ByteArray × Unit))))) → Option Bool) : FEnv := { P := Go.Proofs.Try.prog, ct := fun m => if m = 8 then some (ct_transomlaw05_Few g8) else if m = 9 then some (ct_transomlaw06_awake g9) else if m = 14 then some (ct_transomref06_Same g14) else if m = 17 then some (ct_rows_Same g17) else if m = 18 then some (ct_rows_Cmp g18) else if m = 19 then some (ct_transomref06_Cmp g19) else none, N := 33, body := Go.Proofs.Try.f7.body.getD .skip, rvs := [.tmp 4], rts := [4], nin := 0, rmv := [], segs := [seg_transomlaw06_RowsTwo_0 s0, seg_transomlaw06_RowsTwo_1 s1] }
def transomlaw06_RowsTwo.c {β : Type} (g8 : (List (Int × (Int × (Int × (ByteArray × Unit))))) → Option Int) (g9 : Option Bool) (g14 : (List (Int × (Int × (Int × (ByteArray × Unit))))) → (List (Int × (Int × (Int × (ByteArray × Unit))))) → Option Bool) (g17 : (List (Int × (Int × (Int × (ByteArray × Unit))))) → (List (Int × (Int × (Int × (ByteArray × Unit))))) → Option Bool) (g18 : (List (Int × (Int × (Int × (ByteArray × Unit))))) → (List (Int × (Int × (Int × (ByteArray × Unit))))) → Option Int) (g19 : (List (Int × (Int × (Int × (ByteArray × Unit))))) → (List (Int × (Int × (Int × (ByteArray × Unit))))) → Option Int) (s0 : (List (Int × (Int × (Int × (ByteArray × Unit))))) → (List (Int × (Int × (Int × (ByteArray × Unit))))) → Bool → Option Bool) (s1 : (List (Int × (Int × (Int × (ByteArray × Unit))))) → (List (Int × (Int × (Int × (ByteArray × Unit))))) → Option Bool) (a0 : List (Int × (Int × (Int × (ByteArray × Unit))))) (a1 : List (Int × (Int × (Int × (ByteArray × Unit))))) (ret : Bool → Option β) : Option β := ((g8 a0).bind fun r0 => (bif (r0 == (0 : Int)) then ((s0 a0 a1 true).bind ret) else ((g8 a1).bind fun r1 => ((s0 a0 a1 (r1 == (0 : Int))).bind ret))))
def transomlaw06_RowsTwo.s0c {β : Type} (g8 : (List (Int × (Int × (Int × (ByteArray × Unit))))) → Option Int) (g9 : Option Bool) (g14 : (List (Int × (Int × (Int × (ByteArray × Unit))))) → (List (Int × (Int × (Int × (ByteArray × Unit))))) → Option Bool) (g17 : (List (Int × (Int × (Int × (ByteArray × Unit))))) → (List (Int × (Int × (Int × (ByteArray × Unit))))) → Option Bool) (g18 : (List (Int × (Int × (Int × (ByteArray × Unit))))) → (List (Int × (Int × (Int × (ByteArray × Unit))))) → Option Int) (g19 : (List (Int × (Int × (Int × (ByteArray × Unit))))) → (List (Int × (Int × (Int × (ByteArray × Unit))))) → Option Int) (s0 : (List (Int × (Int × (Int × (ByteArray × Unit))))) → (List (Int × (Int × (Int × (ByteArray × Unit))))) → Bool → Option Bool) (s1 : (List (Int × (Int × (Int × (ByteArray × Unit))))) → (List (Int × (Int × (Int × (ByteArray × Unit))))) → Option Bool) (x0 : List (Int × (Int × (Int × (ByteArray × Unit))))) (x1 : List (Int × (Int × (Int × (ByteArray × Unit))))) (x2 : Bool) (ret : Bool → Option β) : Option β := (bif x2 then (g9.bind fun r0 => (ret (r0))) else ((s1 x0 x1).bind ret))
def transomlaw06_RowsTwo.s1c {β : Type} (g8 : (List (Int × (Int × (Int × (ByteArray × Unit))))) → Option Int) (g9 : Option Bool) (g14 : (List (Int × (Int × (Int × (ByteArray × Unit))))) → (List (Int × (Int × (Int × (ByteArray × Unit))))) → Option Bool) (g17 : (List (Int × (Int × (Int × (ByteArray × Unit))))) → (List (Int × (Int × (Int × (ByteArray × Unit))))) → Option Bool) (g18 : (List (Int × (Int × (Int × (ByteArray × Unit))))) → (List (Int × (Int × (Int × (ByteArray × Unit))))) → Option Int) (g19 : (List (Int × (Int × (Int × (ByteArray × Unit))))) → (List (Int × (Int × (Int × (ByteArray × Unit))))) → Option Int) (s0 : (List (Int × (Int × (Int × (ByteArray × Unit))))) → (List (Int × (Int × (Int × (ByteArray × Unit))))) → Bool → Option Bool) (s1 : (List (Int × (Int × (Int × (ByteArray × Unit))))) → (List (Int × (Int × (Int × (ByteArray × Unit))))) → Option Bool) (x0 : List (Int × (Int × (Int × (ByteArray × Unit))))) (x1 : List (Int × (Int × (Int × (ByteArray × Unit))))) (ret : Bool → Option β) : Option β := ((g17 x0 x1).bind fun r0 => ((g14 x0 x1).bind fun r1 => (bif (r0 == r1) then ((g18 x0 x1).bind fun r2 => ((g19 x0 x1).bind fun r3 => (bif (r2 == r3) then (g9.bind fun r4 => (ret (r4))) else (ret (false))))) else (ret (false)))))
theorem transomlaw06_RowsTwo.c_bind {β : Type} (g8 : (List (Int × (Int × (Int × (ByteArray × Unit))))) → Option Int) (g9 : Option Bool) (g14 : (List (Int × (Int × (Int × (ByteArray × Unit))))) → (List (Int × (Int × (Int × (ByteArray × Unit))))) → Option Bool) (g17 : (List (Int × (Int × (Int × (ByteArray × Unit))))) → (List (Int × (Int × (Int × (ByteArray × Unit))))) → Option Bool) (g18 : (List (Int × (Int × (Int × (ByteArray × Unit))))) → (List (Int × (Int × (Int × (ByteArray × Unit))))) → Option Int) (g19 : (List (Int × (Int × (Int × (ByteArray × Unit))))) → (List (Int × (Int × (Int × (ByteArray × Unit))))) → Option Int) (s0 : (List (Int × (Int × (Int × (ByteArray × Unit))))) → (List (Int × (Int × (Int × (ByteArray × Unit))))) → Bool → Option Bool) (s1 : (List (Int × (Int × (Int × (ByteArray × Unit))))) → (List (Int × (Int × (Int × (ByteArray × Unit))))) → Option Bool) (a0 : List (Int × (Int × (Int × (ByteArray × Unit))))) (a1 : List (Int × (Int × (Int × (ByteArray × Unit))))) (ret : Bool → Option β) : transomlaw06_RowsTwo.c g8 g9 g14 g17 g18 g19 s0 s1 a0 a1 ret = (transomlaw06_RowsTwo.c g8 g9 g14 g17 g18 g19 s0 s1 a0 a1 some).bind ret := by
  simp only [transomlaw06_RowsTwo.c, bif_bind, sum_bind, Option.bind_assoc, Option.bind_some, Option.bind_none, Option.bind_fun_some]
theorem transomlaw06_RowsTwo.s0c_bind {β : Type} (g8 : (List (Int × (Int × (Int × (ByteArray × Unit))))) → Option Int) (g9 : Option Bool) (g14 : (List (Int × (Int × (Int × (ByteArray × Unit))))) → (List (Int × (Int × (Int × (ByteArray × Unit))))) → Option Bool) (g17 : (List (Int × (Int × (Int × (ByteArray × Unit))))) → (List (Int × (Int × (Int × (ByteArray × Unit))))) → Option Bool) (g18 : (List (Int × (Int × (Int × (ByteArray × Unit))))) → (List (Int × (Int × (Int × (ByteArray × Unit))))) → Option Int) (g19 : (List (Int × (Int × (Int × (ByteArray × Unit))))) → (List (Int × (Int × (Int × (ByteArray × Unit))))) → Option Int) (s0 : (List (Int × (Int × (Int × (ByteArray × Unit))))) → (List (Int × (Int × (Int × (ByteArray × Unit))))) → Bool → Option Bool) (s1 : (List (Int × (Int × (Int × (ByteArray × Unit))))) → (List (Int × (Int × (Int × (ByteArray × Unit))))) → Option Bool) (x0 : List (Int × (Int × (Int × (ByteArray × Unit))))) (x1 : List (Int × (Int × (Int × (ByteArray × Unit))))) (x2 : Bool) (ret : Bool → Option β) : transomlaw06_RowsTwo.s0c g8 g9 g14 g17 g18 g19 s0 s1 x0 x1 x2 ret = (transomlaw06_RowsTwo.s0c g8 g9 g14 g17 g18 g19 s0 s1 x0 x1 x2 some).bind ret := by
  simp only [transomlaw06_RowsTwo.s0c, bif_bind, sum_bind, Option.bind_assoc, Option.bind_some, Option.bind_none, Option.bind_fun_some]
theorem transomlaw06_RowsTwo.s1c_bind {β : Type} (g8 : (List (Int × (Int × (Int × (ByteArray × Unit))))) → Option Int) (g9 : Option Bool) (g14 : (List (Int × (Int × (Int × (ByteArray × Unit))))) → (List (Int × (Int × (Int × (ByteArray × Unit))))) → Option Bool) (g17 : (List (Int × (Int × (Int × (ByteArray × Unit))))) → (List (Int × (Int × (Int × (ByteArray × Unit))))) → Option Bool) (g18 : (List (Int × (Int × (Int × (ByteArray × Unit))))) → (List (Int × (Int × (Int × (ByteArray × Unit))))) → Option Int) (g19 : (List (Int × (Int × (Int × (ByteArray × Unit))))) → (List (Int × (Int × (Int × (ByteArray × Unit))))) → Option Int) (s0 : (List (Int × (Int × (Int × (ByteArray × Unit))))) → (List (Int × (Int × (Int × (ByteArray × Unit))))) → Bool → Option Bool) (s1 : (List (Int × (Int × (Int × (ByteArray × Unit))))) → (List (Int × (Int × (Int × (ByteArray × Unit))))) → Option Bool) (x0 : List (Int × (Int × (Int × (ByteArray × Unit))))) (x1 : List (Int × (Int × (Int × (ByteArray × Unit))))) (ret : Bool → Option β) : transomlaw06_RowsTwo.s1c g8 g9 g14 g17 g18 g19 s0 s1 x0 x1 ret = (transomlaw06_RowsTwo.s1c g8 g9 g14 g17 g18 g19 s0 s1 x0 x1 some).bind ret := by
  simp only [transomlaw06_RowsTwo.s1c, bif_bind, sum_bind, Option.bind_assoc, Option.bind_some, Option.bind_none, Option.bind_fun_some]
theorem transomlaw06_RowsTwo.ev (g8 : (List (Int × (Int × (Int × (ByteArray × Unit))))) → Option Int) (g9 : Option Bool) (g14 : (List (Int × (Int × (Int × (ByteArray × Unit))))) → (List (Int × (Int × (Int × (ByteArray × Unit))))) → Option Bool) (g17 : (List (Int × (Int × (Int × (ByteArray × Unit))))) → (List (Int × (Int × (Int × (ByteArray × Unit))))) → Option Bool) (g18 : (List (Int × (Int × (Int × (ByteArray × Unit))))) → (List (Int × (Int × (Int × (ByteArray × Unit))))) → Option Int) (g19 : (List (Int × (Int × (Int × (ByteArray × Unit))))) → (List (Int × (Int × (Int × (ByteArray × Unit))))) → Option Int) (s0 : (List (Int × (Int × (Int × (ByteArray × Unit))))) → (List (Int × (Int × (Int × (ByteArray × Unit))))) → Bool → Option Bool) (s1 : (List (Int × (Int × (Int × (ByteArray × Unit))))) → (List (Int × (Int × (Int × (ByteArray × Unit))))) → Option Bool) (a0 : List (Int × (Int × (Int × (ByteArray × Unit))))) (a1 : List (Int × (Int × (Int × (ByteArray × Unit))))) : evAt (env_transomlaw06_RowsTwo g8 g9 g14 g17 g18 g19 s0 s1) [] [0, 1] [.v (.one (.d (.sl (.pair (.int .i64) (.pair (.int .i64) (.pair (.int .u64) (.pair .str .unit))))) a0)), .v (.one (.d (.sl (.pair (.int .i64) (.pair (.int .i64) (.pair (.int .u64) (.pair .str .unit))))) a1))] [] some = transomlaw06_RowsTwo.c g8 g9 g14 g17 g18 g19 s0 s1 a0 a1 (fun r => some ⟨.v (.one (.d .bool r)), []⟩) := by
  kernel_rfl
theorem transomlaw06_RowsTwo.s0_ev (g8 : (List (Int × (Int × (Int × (ByteArray × Unit))))) → Option Int) (g9 : Option Bool) (g14 : (List (Int × (Int × (Int × (ByteArray × Unit))))) → (List (Int × (Int × (Int × (ByteArray × Unit))))) → Option Bool) (g17 : (List (Int × (Int × (Int × (ByteArray × Unit))))) → (List (Int × (Int × (Int × (ByteArray × Unit))))) → Option Bool) (g18 : (List (Int × (Int × (Int × (ByteArray × Unit))))) → (List (Int × (Int × (Int × (ByteArray × Unit))))) → Option Int) (g19 : (List (Int × (Int × (Int × (ByteArray × Unit))))) → (List (Int × (Int × (Int × (ByteArray × Unit))))) → Option Int) (s0 : (List (Int × (Int × (Int × (ByteArray × Unit))))) → (List (Int × (Int × (Int × (ByteArray × Unit))))) → Bool → Option Bool) (s1 : (List (Int × (Int × (Int × (ByteArray × Unit))))) → (List (Int × (Int × (Int × (ByteArray × Unit))))) → Option Bool) (x0 : List (Int × (Int × (Int × (ByteArray × Unit))))) (x1 : List (Int × (Int × (Int × (ByteArray × Unit))))) (x2 : Bool) : evAt (env_transomlaw06_RowsTwo g8 g9 g14 g17 g18 g19 s0 s1) [1, 0, 1] [0, 1, 12] [.v (.one (.d (.sl (.pair (.int .i64) (.pair (.int .i64) (.pair (.int .u64) (.pair .str .unit))))) x0)), .v (.one (.d (.sl (.pair (.int .i64) (.pair (.int .i64) (.pair (.int .u64) (.pair .str .unit))))) x1)), .v (.one (.d .bool x2))] [] some = transomlaw06_RowsTwo.s0c g8 g9 g14 g17 g18 g19 s0 s1 x0 x1 x2 (fun r => some ⟨.v (.one (.d .bool r)), []⟩) := by
  kernel_rfl
theorem transomlaw06_RowsTwo.s1_ev (g8 : (List (Int × (Int × (Int × (ByteArray × Unit))))) → Option Int) (g9 : Option Bool) (g14 : (List (Int × (Int × (Int × (ByteArray × Unit))))) → (List (Int × (Int × (Int × (ByteArray × Unit))))) → Option Bool) (g17 : (List (Int × (Int × (Int × (ByteArray × Unit))))) → (List (Int × (Int × (Int × (ByteArray × Unit))))) → Option Bool) (g18 : (List (Int × (Int × (Int × (ByteArray × Unit))))) → (List (Int × (Int × (Int × (ByteArray × Unit))))) → Option Int) (g19 : (List (Int × (Int × (Int × (ByteArray × Unit))))) → (List (Int × (Int × (Int × (ByteArray × Unit))))) → Option Int) (s0 : (List (Int × (Int × (Int × (ByteArray × Unit))))) → (List (Int × (Int × (Int × (ByteArray × Unit))))) → Bool → Option Bool) (s1 : (List (Int × (Int × (Int × (ByteArray × Unit))))) → (List (Int × (Int × (Int × (ByteArray × Unit))))) → Option Bool) (x0 : List (Int × (Int × (Int × (ByteArray × Unit))))) (x1 : List (Int × (Int × (Int × (ByteArray × Unit))))) : evAt (env_transomlaw06_RowsTwo g8 g9 g14 g17 g18 g19 s0 s1) [1, 1] [0, 1] [.v (.one (.d (.sl (.pair (.int .i64) (.pair (.int .i64) (.pair (.int .u64) (.pair .str .unit))))) x0)), .v (.one (.d (.sl (.pair (.int .i64) (.pair (.int .i64) (.pair (.int .u64) (.pair .str .unit))))) x1))] [] some = transomlaw06_RowsTwo.s1c g8 g9 g14 g17 g18 g19 s0 s1 x0 x1 (fun r => some ⟨.v (.one (.d .bool r)), []⟩) := by
  kernel_rfl
mutual
def transomlaw06_RowsTwo.s0 : Nat → (List (Int × (Int × (Int × (ByteArray × Unit))))) → (List (Int × (Int × (Int × (ByteArray × Unit))))) → Bool → Option Bool
  | 0, _, _, _ => none
  | k + 1, x0, x1, x2 => transomlaw06_RowsTwo.s0c (transomlaw05_Few.f k) (transomlaw06_awake.f k) (transomref06_Same.f k) (rows_Same.f k) (rows_Cmp.f k) (transomref06_Cmp.f k) (transomlaw06_RowsTwo.s0 k) (transomlaw06_RowsTwo.s1 k) x0 x1 x2 some
def transomlaw06_RowsTwo.s1 : Nat → (List (Int × (Int × (Int × (ByteArray × Unit))))) → (List (Int × (Int × (Int × (ByteArray × Unit))))) → Option Bool
  | 0, _, _ => none
  | k + 1, x0, x1 => transomlaw06_RowsTwo.s1c (transomlaw05_Few.f k) (transomlaw06_awake.f k) (transomref06_Same.f k) (rows_Same.f k) (rows_Cmp.f k) (transomref06_Cmp.f k) (transomlaw06_RowsTwo.s0 k) (transomlaw06_RowsTwo.s1 k) x0 x1 some
end
def transomlaw06_RowsTwo.f (k : Nat) (a0 : List (Int × (Int × (Int × (ByteArray × Unit))))) (a1 : List (Int × (Int × (Int × (ByteArray × Unit))))) : Option Bool := transomlaw06_RowsTwo.c (transomlaw05_Few.f k) (transomlaw06_awake.f k) (transomref06_Same.f k) (rows_Same.f k) (rows_Cmp.f k) (transomref06_Cmp.f k) (transomlaw06_RowsTwo.s0 k) (transomlaw06_RowsTwo.s1 k) a0 a1 some
theorem transomlaw06_RowsTwo.is (g8 : (List (Int × (Int × (Int × (ByteArray × Unit))))) → Option Int) (g9 : Option Bool) (g14 : (List (Int × (Int × (Int × (ByteArray × Unit))))) → (List (Int × (Int × (Int × (ByteArray × Unit))))) → Option Bool) (g17 : (List (Int × (Int × (Int × (ByteArray × Unit))))) → (List (Int × (Int × (Int × (ByteArray × Unit))))) → Option Bool) (g18 : (List (Int × (Int × (Int × (ByteArray × Unit))))) → (List (Int × (Int × (Int × (ByteArray × Unit))))) → Option Int) (g19 : (List (Int × (Int × (Int × (ByteArray × Unit))))) → (List (Int × (Int × (Int × (ByteArray × Unit))))) → Option Int) (s0 : (List (Int × (Int × (Int × (ByteArray × Unit))))) → (List (Int × (Int × (Int × (ByteArray × Unit))))) → Bool → Option Bool) (s1 : (List (Int × (Int × (Int × (ByteArray × Unit))))) → (List (Int × (Int × (Int × (ByteArray × Unit))))) → Option Bool) : FnIs (env_transomlaw06_RowsTwo g8 g9 g14 g17 g18 g19 s0 s1) 7 Go.Proofs.Try.f7 := ⟨Go.Proofs.Try.func7, rfl, rfl, rfl, by decide⟩
theorem transomlaw06_RowsTwo.envok (g8 : (List (Int × (Int × (Int × (ByteArray × Unit))))) → Option Int) (g9 : Option Bool) (g14 : (List (Int × (Int × (Int × (ByteArray × Unit))))) → (List (Int × (Int × (Int × (ByteArray × Unit))))) → Option Bool) (g17 : (List (Int × (Int × (Int × (ByteArray × Unit))))) → (List (Int × (Int × (Int × (ByteArray × Unit))))) → Option Bool) (g18 : (List (Int × (Int × (Int × (ByteArray × Unit))))) → (List (Int × (Int × (Int × (ByteArray × Unit))))) → Option Int) (g19 : (List (Int × (Int × (Int × (ByteArray × Unit))))) → (List (Int × (Int × (Int × (ByteArray × Unit))))) → Option Int) (s0 : (List (Int × (Int × (Int × (ByteArray × Unit))))) → (List (Int × (Int × (Int × (ByteArray × Unit))))) → Bool → Option Bool) (s1 : (List (Int × (Int × (Int × (ByteArray × Unit))))) → (List (Int × (Int × (Int × (ByteArray × Unit))))) → Option Bool) (h8 : CtOK Go.Proofs.Try.prog 8 (ct_transomlaw05_Few g8)) (h9 : CtOK Go.Proofs.Try.prog 9 (ct_transomlaw06_awake g9)) (h14 : CtOK Go.Proofs.Try.prog 14 (ct_transomref06_Same g14)) (h17 : CtOK Go.Proofs.Try.prog 17 (ct_rows_Same g17)) (h18 : CtOK Go.Proofs.Try.prog 18 (ct_rows_Cmp g18)) (h19 : CtOK Go.Proofs.Try.prog 19 (ct_transomref06_Cmp g19)) : EnvOK (env_transomlaw06_RowsTwo g8 g9 g14 g17 g18 g19 s0 s1).toEnv := by
  intro f c h
  simp only [env_transomlaw06_RowsTwo] at h
  split at h
  · rename_i e; subst e; cases h; exact h8
  split at h
  · rename_i e; subst e; cases h; exact h9
  split at h
  · rename_i e; subst e; cases h; exact h14
  split at h
  · rename_i e; subst e; cases h; exact h17
  split at h
  · rename_i e; subst e; cases h; exact h18
  split at h
  · rename_i e; subst e; cases h; exact h19
  simp at h
theorem transomlaw06_RowsTwo.segs_ok : ∀ k, ∀ s ∈ (env_transomlaw06_RowsTwo (transomlaw05_Few.f k) (transomlaw06_awake.f k) (transomref06_Same.f k) (rows_Same.f k) (rows_Cmp.f k) (transomref06_Cmp.f k) (transomlaw06_RowsTwo.s0 k) (transomlaw06_RowsTwo.s1 k)).segs, SegOK (env_transomlaw06_RowsTwo (transomlaw05_Few.f k) (transomlaw06_awake.f k) (transomref06_Same.f k) (rows_Same.f k) (rows_Cmp.f k) (transomref06_Cmp.f k) (transomlaw06_RowsTwo.s0 k) (transomlaw06_RowsTwo.s1 k)) Go.Proofs.Try.f7 s
  | 0 => by
    intro s hs
    simp only [env_transomlaw06_RowsTwo, List.mem_cons, List.not_mem_nil, or_false] at hs
    rcases hs with rfl | rfl
    · intro tvs blks res h; exfalso; simp only [seg_transomlaw06_RowsTwo_0] at h; split at h <;> simp [transomlaw06_RowsTwo.s0] at h
    · intro tvs blks res h; exfalso; simp only [seg_transomlaw06_RowsTwo_1] at h; split at h <;> simp [transomlaw06_RowsTwo.s1] at h
  | k + 1 => by
    have ih := transomlaw06_RowsTwo.segs_ok k
    intro s hs
    simp only [env_transomlaw06_RowsTwo, List.mem_cons, List.not_mem_nil, or_false] at hs
    rcases hs with rfl | rfl
    · refine seg_of_ev (E := env_transomlaw06_RowsTwo (transomlaw05_Few.f k) (transomlaw06_awake.f k) (transomref06_Same.f k) (rows_Same.f k) (rows_Cmp.f k) (transomref06_Cmp.f k) (transomlaw06_RowsTwo.s0 k) (transomlaw06_RowsTwo.s1 k)) (transomlaw06_RowsTwo.envok _ _ _ _ _ _ _ _  (transomlaw05_Few.ok k) (transomlaw06_awake.ok k) (transomref06_Same.ok k) (rows_Same.ok k) (rows_Cmp.ok k) (transomref06_Cmp.ok k)) ⟨(transomlaw06_RowsTwo.is (transomlaw05_Few.f k) (transomlaw06_awake.f k) (transomref06_Same.f k) (rows_Same.f k) (rows_Cmp.f k) (transomref06_Cmp.f k) (transomlaw06_RowsTwo.s0 k) (transomlaw06_RowsTwo.s1 k)).rvs⟩ ih ?_
      intro tvs blks res h
      simp only [seg_transomlaw06_RowsTwo_0] at h
      split at h
      · refine (transomlaw06_RowsTwo.s0_ev (transomlaw05_Few.f k) (transomlaw06_awake.f k) (transomref06_Same.f k) (rows_Same.f k) (rows_Cmp.f k) (transomref06_Cmp.f k) (transomlaw06_RowsTwo.s0 k) (transomlaw06_RowsTwo.s1 k) _ _ _ ).trans ?_
        rw [transomlaw06_RowsTwo.s0c_bind]
        exact h
      · simp at h
    · refine seg_of_ev (E := env_transomlaw06_RowsTwo (transomlaw05_Few.f k) (transomlaw06_awake.f k) (transomref06_Same.f k) (rows_Same.f k) (rows_Cmp.f k) (transomref06_Cmp.f k) (transomlaw06_RowsTwo.s0 k) (transomlaw06_RowsTwo.s1 k)) (transomlaw06_RowsTwo.envok _ _ _ _ _ _ _ _  (transomlaw05_Few.ok k) (transomlaw06_awake.ok k) (transomref06_Same.ok k) (rows_Same.ok k) (rows_Cmp.ok k) (transomref06_Cmp.ok k)) ⟨(transomlaw06_RowsTwo.is (transomlaw05_Few.f k) (transomlaw06_awake.f k) (transomref06_Same.f k) (rows_Same.f k) (rows_Cmp.f k) (transomref06_Cmp.f k) (transomlaw06_RowsTwo.s0 k) (transomlaw06_RowsTwo.s1 k)).rvs⟩ ih ?_
      intro tvs blks res h
      simp only [seg_transomlaw06_RowsTwo_1] at h
      split at h
      · refine (transomlaw06_RowsTwo.s1_ev (transomlaw05_Few.f k) (transomlaw06_awake.f k) (transomref06_Same.f k) (rows_Same.f k) (rows_Cmp.f k) (transomref06_Cmp.f k) (transomlaw06_RowsTwo.s0 k) (transomlaw06_RowsTwo.s1 k) _ _ ).trans ?_
        rw [transomlaw06_RowsTwo.s1c_bind]
        exact h
      · simp at h
theorem transomlaw06_RowsTwo.ok (k : Nat) : CtOK Go.Proofs.Try.prog 7 (ct_transomlaw06_RowsTwo (transomlaw06_RowsTwo.f k)) := by
  refine ct_of_ev (E := env_transomlaw06_RowsTwo (transomlaw05_Few.f k) (transomlaw06_awake.f k) (transomref06_Same.f k) (rows_Same.f k) (rows_Cmp.f k) (transomref06_Cmp.f k) (transomlaw06_RowsTwo.s0 k) (transomlaw06_RowsTwo.s1 k)) (transomlaw06_RowsTwo.is _ _ _ _ _ _ _ _ ) (transomlaw06_RowsTwo.envok _ _ _ _ _ _ _ _  (transomlaw05_Few.ok k) (transomlaw06_awake.ok k) (transomref06_Same.ok k) (rows_Same.ok k) (rows_Cmp.ok k) (transomref06_Cmp.ok k)) (transomlaw06_RowsTwo.segs_ok k) rfl ?_
  intro tvs blks res h
  simp only [ct_transomlaw06_RowsTwo] at h
  split at h
  · refine (transomlaw06_RowsTwo.ev (transomlaw05_Few.f k) (transomlaw06_awake.f k) (transomref06_Same.f k) (rows_Same.f k) (rows_Cmp.f k) (transomref06_Cmp.f k) (transomlaw06_RowsTwo.s0 k) (transomlaw06_RowsTwo.s1 k) _ _ ).trans ?_
    rw [transomlaw06_RowsTwo.c_bind]
    exact h
  · simp at h
end Go.Proofs.Ytlclhjdfbkenfaa.Aev
