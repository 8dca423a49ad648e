/- By a program of this session (AEV): functions of the program as plain functions, and that the machine does what they say. -/
import Derived.Test.YtlclhjdfbkenfaaAevW
import Derived.Test.YtlclhjdfbkenfaaProg
import Derived.Laws.Externs
import Derived.Lib.Bytealg
import Derived.Test.YtlclhjdfbkenfaaF0
import Derived.Test.YtlclhjdfbkenfaaF5
import Derived.Test.YtlclhjdfbkenfaaF8
import Derived.Test.YtlclhjdfbkenfaaF15
import Derived.Test.YtlclhjdfbkenfaaF18
namespace Go.Proofs.Ytlclhjdfbkenfaa.Aev
set_option linter.unusedVariables false
set_option linter.unusedSimpArgs false
set_option maxRecDepth 100000
set_option maxHeartbeats 4000000
open Go
/-! ### transomlaw06_RowsPicks: function 6 -/
def ct_transomlaw06_RowsPicks (g : (List (Int × (Int × (Int × (ByteArray × Unit))))) → (List Int) → Option Bool) : Ct where
  nin := 0
  mv := []
  F := fun tvs blks {β} K => match tvs, blks with
    | [.v (.one (.d (.sl (.pair (.int .i64) (.pair (.int .i64) (.pair (.int .u64) (.pair .str .unit))))) a0)), .v (.one (.d (.sl (.int .i64)) a1))], [] => (g a0 a1).bind fun r => K ⟨.v (.one (.d .bool r)), []⟩
    | _, _ => none
  legit := fun tvs blks K r h => by
    split at h
    · obtain ⟨x, hx, hk⟩ := Option.bind_eq_some_iff.1 h
      refine ⟨_, ?_, hk⟩
      simp only [hx, Option.bind_some]
    · simp at h
def seg_transomlaw06_RowsPicks_0 (g : (List (Int × (Int × (Int × (ByteArray × Unit))))) → (List Int) → Bool → Option Bool) : Seg where
  path := [1, 0, 1]
  prep := []
  keep := [0, 1, 16]
  F := fun tvs blks {β} K => match tvs, blks with
    | [.v (.one (.d (.sl (.pair (.int .i64) (.pair (.int .i64) (.pair (.int .u64) (.pair .str .unit))))) x0)), .v (.one (.d (.sl (.int .i64)) x1)), .v (.one (.d .bool x2))], [] => (g x0 x1 x2).bind fun r => K ⟨.v (.one (.d .bool r)), []⟩
    | _, _ => none
  legit := fun tvs blks K r h => by
    split at h
    · obtain ⟨x, hx, hk⟩ := Option.bind_eq_some_iff.1 h
      refine ⟨_, ?_, hk⟩
      simp only [hx, Option.bind_some]
    · simp at h
def seg_transomlaw06_RowsPicks_1 (g : (List (Int × (Int × (Int × (ByteArray × Unit))))) → (List Int) → Option Bool) : Seg where
  path := [1, 1]
  prep := []
  keep := [0, 1]
  F := fun tvs blks {β} K => match tvs, blks with
    | [.v (.one (.d (.sl (.pair (.int .i64) (.pair (.int .i64) (.pair (.int .u64) (.pair .str .unit))))) x0)), .v (.one (.d (.sl (.int .i64)) x1))], [] => (g x0 x1).bind fun r => K ⟨.v (.one (.d .bool r)), []⟩
    | _, _ => none
  legit := fun tvs blks K r h => by
    split at h
    · obtain ⟨x, hx, hk⟩ := Option.bind_eq_some_iff.1 h
      refine ⟨_, ?_, hk⟩
      simp only [hx, Option.bind_some]
    · simp at h
noncomputable def env_transomlaw06_RowsPicks (g8 : (List (Int × (Int × (Int × (ByteArray × Unit))))) → Option Int) (g9 : Option Bool) (g14 : (List (Int × (Int × (Int × (ByteArray × Unit))))) → (List (Int × (Int × (Int × (ByteArray × Unit))))) → Option Bool) (g15 : (List (Int × (Int × (Int × (ByteArray × Unit))))) → (List Int) → Option ((List (Int × (Int × (Int × (ByteArray × Unit))))) × Int)) (g16 : (List (Int × (Int × (Int × (ByteArray × Unit))))) → (List Int) → Option ((List (Int × (Int × (Int × (ByteArray × Unit))))) × Int)) (s0 : (List (Int × (Int × (Int × (ByteArray × Unit))))) → (List Int) → Bool → Option Bool) (s1 : (List (Int × (Int × (Int × (ByteArray × Unit))))) → (List Int) → Option Bool) : FEnv := { P := Go.Proofs.Try.prog, ct := fun m => if m = 8 then some (ct_transomlaw05_Few g8) else if m = 9 then some (ct_transomlaw06_awake g9) else if m = 14 then some (ct_transomref06_Same g14) else if m = 15 then some (ct_rows_Pick g15) else if m = 16 then some (ct_transomref06_Pick g16) else none, N := 41, body := Go.Proofs.Try.f6.body.getD .skip, rvs := [.tmp 4], rts := [4], nin := 0, rmv := [], segs := [seg_transomlaw06_RowsPicks_0 s0, seg_transomlaw06_RowsPicks_1 s1] }
def transomlaw06_RowsPicks.c {β : Type} (g8 : (List (Int × (Int × (Int × (ByteArray × Unit))))) → Option Int) (g9 : Option Bool) (g14 : (List (Int × (Int × (Int × (ByteArray × Unit))))) → (List (Int × (Int × (Int × (ByteArray × Unit))))) → Option Bool) (g15 : (List (Int × (Int × (Int × (ByteArray × Unit))))) → (List Int) → Option ((List (Int × (Int × (Int × (ByteArray × Unit))))) × Int)) (g16 : (List (Int × (Int × (Int × (ByteArray × Unit))))) → (List Int) → Option ((List (Int × (Int × (Int × (ByteArray × Unit))))) × Int)) (s0 : (List (Int × (Int × (Int × (ByteArray × Unit))))) → (List Int) → Bool → Option Bool) (s1 : (List (Int × (Int × (Int × (ByteArray × Unit))))) → (List Int) → Option Bool) (a0 : List (Int × (Int × (Int × (ByteArray × Unit))))) (a1 : List Int) (ret : Bool → Option β) : Option β := ((g8 a0).bind fun r0 => (bif (r0 == (0 : Int)) then ((s0 a0 a1 true).bind ret) else ((s0 a0 a1 (decide (((List.length a1) : Int) > (50 : Int)))).bind ret)))
def transomlaw06_RowsPicks.s0c {β : Type} (g8 : (List (Int × (Int × (Int × (ByteArray × Unit))))) → Option Int) (g9 : Option Bool) (g14 : (List (Int × (Int × (Int × (ByteArray × Unit))))) → (List (Int × (Int × (Int × (ByteArray × Unit))))) → Option Bool) (g15 : (List (Int × (Int × (Int × (ByteArray × Unit))))) → (List Int) → Option ((List (Int × (Int × (Int × (ByteArray × Unit))))) × Int)) (g16 : (List (Int × (Int × (Int × (ByteArray × Unit))))) → (List Int) → Option ((List (Int × (Int × (Int × (ByteArray × Unit))))) × Int)) (s0 : (List (Int × (Int × (Int × (ByteArray × Unit))))) → (List Int) → Bool → Option Bool) (s1 : (List (Int × (Int × (Int × (ByteArray × Unit))))) → (List Int) → Option Bool) (x0 : List (Int × (Int × (Int × (ByteArray × Unit))))) (x1 : List Int) (x2 : Bool) (ret : Bool → Option β) : Option β := (bif x2 then (g9.bind fun r0 => (ret (r0))) else ((s1 x0 x1).bind ret))
def transomlaw06_RowsPicks.s1c {β : Type} (g8 : (List (Int × (Int × (Int × (ByteArray × Unit))))) → Option Int) (g9 : Option Bool) (g14 : (List (Int × (Int × (Int × (ByteArray × Unit))))) → (List (Int × (Int × (Int × (ByteArray × Unit))))) → Option Bool) (g15 : (List (Int × (Int × (Int × (ByteArray × Unit))))) → (List Int) → Option ((List (Int × (Int × (Int × (ByteArray × Unit))))) × Int)) (g16 : (List (Int × (Int × (Int × (ByteArray × Unit))))) → (List Int) → Option ((List (Int × (Int × (Int × (ByteArray × Unit))))) × Int)) (s0 : (List (Int × (Int × (Int × (ByteArray × Unit))))) → (List Int) → Bool → Option Bool) (s1 : (List (Int × (Int × (Int × (ByteArray × Unit))))) → (List Int) → Option Bool) (x0 : List (Int × (Int × (Int × (ByteArray × Unit))))) (x1 : List Int) (ret : Bool → Option β) : Option β := ((g15 x0 x1).bind fun r0 => ((g16 x0 x1).bind fun r1 => ((g14 r0.1 r1.1).bind fun r2 => (bif r2 then (bif (r0.2 == r1.2) then (g9.bind fun r3 => (ret (r3))) else (ret (false))) else (ret (false))))))
theorem transomlaw06_RowsPicks.c_bind {β : Type} (g8 : (List (Int × (Int × (Int × (ByteArray × Unit))))) → Option Int) (g9 : Option Bool) (g14 : (List (Int × (Int × (Int × (ByteArray × Unit))))) → (List (Int × (Int × (Int × (ByteArray × Unit))))) → Option Bool) (g15 : (List (Int × (Int × (Int × (ByteArray × Unit))))) → (List Int) → Option ((List (Int × (Int × (Int × (ByteArray × Unit))))) × Int)) (g16 : (List (Int × (Int × (Int × (ByteArray × Unit))))) → (List Int) → Option ((List (Int × (Int × (Int × (ByteArray × Unit))))) × Int)) (s0 : (List (Int × (Int × (Int × (ByteArray × Unit))))) → (List Int) → Bool → Option Bool) (s1 : (List (Int × (Int × (Int × (ByteArray × Unit))))) → (List Int) → Option Bool) (a0 : List (Int × (Int × (Int × (ByteArray × Unit))))) (a1 : List Int) (ret : Bool → Option β) : transomlaw06_RowsPicks.c g8 g9 g14 g15 g16 s0 s1 a0 a1 ret = (transomlaw06_RowsPicks.c g8 g9 g14 g15 g16 s0 s1 a0 a1 some).bind ret := by
  simp only [transomlaw06_RowsPicks.c, bif_bind, sum_bind, Option.bind_assoc, Option.bind_some, Option.bind_none, Option.bind_fun_some]
theorem transomlaw06_RowsPicks.s0c_bind {β : Type} (g8 : (List (Int × (Int × (Int × (ByteArray × Unit))))) → Option Int) (g9 : Option Bool) (g14 : (List (Int × (Int × (Int × (ByteArray × Unit))))) → (List (Int × (Int × (Int × (ByteArray × Unit))))) → Option Bool) (g15 : (List (Int × (Int × (Int × (ByteArray × Unit))))) → (List Int) → Option ((List (Int × (Int × (Int × (ByteArray × Unit))))) × Int)) (g16 : (List (Int × (Int × (Int × (ByteArray × Unit))))) → (List Int) → Option ((List (Int × (Int × (Int × (ByteArray × Unit))))) × Int)) (s0 : (List (Int × (Int × (Int × (ByteArray × Unit))))) → (List Int) → Bool → Option Bool) (s1 : (List (Int × (Int × (Int × (ByteArray × Unit))))) → (List Int) → Option Bool) (x0 : List (Int × (Int × (Int × (ByteArray × Unit))))) (x1 : List Int) (x2 : Bool) (ret : Bool → Option β) : transomlaw06_RowsPicks.s0c g8 g9 g14 g15 g16 s0 s1 x0 x1 x2 ret = (transomlaw06_RowsPicks.s0c g8 g9 g14 g15 g16 s0 s1 x0 x1 x2 some).bind ret := by
  simp only [transomlaw06_RowsPicks.s0c, bif_bind, sum_bind, Option.bind_assoc, Option.bind_some, Option.bind_none, Option.bind_fun_some]
theorem transomlaw06_RowsPicks.s1c_bind {β : Type} (g8 : (List (Int × (Int × (Int × (ByteArray × Unit))))) → Option Int) (g9 : Option Bool) (g14 : (List (Int × (Int × (Int × (ByteArray × Unit))))) → (List (Int × (Int × (Int × (ByteArray × Unit))))) → Option Bool) (g15 : (List (Int × (Int × (Int × (ByteArray × Unit))))) → (List Int) → Option ((List (Int × (Int × (Int × (ByteArray × Unit))))) × Int)) (g16 : (List (Int × (Int × (Int × (ByteArray × Unit))))) → (List Int) → Option ((List (Int × (Int × (Int × (ByteArray × Unit))))) × Int)) (s0 : (List (Int × (Int × (Int × (ByteArray × Unit))))) → (List Int) → Bool → Option Bool) (s1 : (List (Int × (Int × (Int × (ByteArray × Unit))))) → (List Int) → Option Bool) (x0 : List (Int × (Int × (Int × (ByteArray × Unit))))) (x1 : List Int) (ret : Bool → Option β) : transomlaw06_RowsPicks.s1c g8 g9 g14 g15 g16 s0 s1 x0 x1 ret = (transomlaw06_RowsPicks.s1c g8 g9 g14 g15 g16 s0 s1 x0 x1 some).bind ret := by
  simp only [transomlaw06_RowsPicks.s1c, bif_bind, sum_bind, Option.bind_assoc, Option.bind_some, Option.bind_none, Option.bind_fun_some]
theorem transomlaw06_RowsPicks.ev (g8 : (List (Int × (Int × (Int × (ByteArray × Unit))))) → Option Int) (g9 : Option Bool) (g14 : (List (Int × (Int × (Int × (ByteArray × Unit))))) → (List (Int × (Int × (Int × (ByteArray × Unit))))) → Option Bool) (g15 : (List (Int × (Int × (Int × (ByteArray × Unit))))) → (List Int) → Option ((List (Int × (Int × (Int × (ByteArray × Unit))))) × Int)) (g16 : (List (Int × (Int × (Int × (ByteArray × Unit))))) → (List Int) → Option ((List (Int × (Int × (Int × (ByteArray × Unit))))) × Int)) (s0 : (List (Int × (Int × (Int × (ByteArray × Unit))))) → (List Int) → Bool → Option Bool) (s1 : (List (Int × (Int × (Int × (ByteArray × Unit))))) → (List Int) → Option Bool) (a0 : List (Int × (Int × (Int × (ByteArray × Unit))))) (a1 : List Int) : evAt (env_transomlaw06_RowsPicks g8 g9 g14 g15 g16 s0 s1) [] [0, 1] [.v (.one (.d (.sl (.pair (.int .i64) (.pair (.int .i64) (.pair (.int .u64) (.pair .str .unit))))) a0)), .v (.one (.d (.sl (.int .i64)) a1))] [] some = transomlaw06_RowsPicks.c g8 g9 g14 g15 g16 s0 s1 a0 a1 (fun r => some ⟨.v (.one (.d .bool r)), []⟩) := by
  kernel_rfl
theorem transomlaw06_RowsPicks.s0_ev (g8 : (List (Int × (Int × (Int × (ByteArray × Unit))))) → Option Int) (g9 : Option Bool) (g14 : (List (Int × (Int × (Int × (ByteArray × Unit))))) → (List (Int × (Int × (Int × (ByteArray × Unit))))) → Option Bool) (g15 : (List (Int × (Int × (Int × (ByteArray × Unit))))) → (List Int) → Option ((List (Int × (Int × (Int × (ByteArray × Unit))))) × Int)) (g16 : (List (Int × (Int × (Int × (ByteArray × Unit))))) → (List Int) → Option ((List (Int × (Int × (Int × (ByteArray × Unit))))) × Int)) (s0 : (List (Int × (Int × (Int × (ByteArray × Unit))))) → (List Int) → Bool → Option Bool) (s1 : (List (Int × (Int × (Int × (ByteArray × Unit))))) → (List Int) → Option Bool) (x0 : List (Int × (Int × (Int × (ByteArray × Unit))))) (x1 : List Int) (x2 : Bool) : evAt (env_transomlaw06_RowsPicks g8 g9 g14 g15 g16 s0 s1) [1, 0, 1] [0, 1, 16] [.v (.one (.d (.sl (.pair (.int .i64) (.pair (.int .i64) (.pair (.int .u64) (.pair .str .unit))))) x0)), .v (.one (.d (.sl (.int .i64)) x1)), .v (.one (.d .bool x2))] [] some = transomlaw06_RowsPicks.s0c g8 g9 g14 g15 g16 s0 s1 x0 x1 x2 (fun r => some ⟨.v (.one (.d .bool r)), []⟩) := by
  kernel_rfl
theorem transomlaw06_RowsPicks.s1_ev (g8 : (List (Int × (Int × (Int × (ByteArray × Unit))))) → Option Int) (g9 : Option Bool) (g14 : (List (Int × (Int × (Int × (ByteArray × Unit))))) → (List (Int × (Int × (Int × (ByteArray × Unit))))) → Option Bool) (g15 : (List (Int × (Int × (Int × (ByteArray × Unit))))) → (List Int) → Option ((List (Int × (Int × (Int × (ByteArray × Unit))))) × Int)) (g16 : (List (Int × (Int × (Int × (ByteArray × Unit))))) → (List Int) → Option ((List (Int × (Int × (Int × (ByteArray × Unit))))) × Int)) (s0 : (List (Int × (Int × (Int × (ByteArray × Unit))))) → (List Int) → Bool → Option Bool) (s1 : (List (Int × (Int × (Int × (ByteArray × Unit))))) → (List Int) → Option Bool) (x0 : List (Int × (Int × (Int × (ByteArray × Unit))))) (x1 : List Int) : evAt (env_transomlaw06_RowsPicks g8 g9 g14 g15 g16 s0 s1) [1, 1] [0, 1] [.v (.one (.d (.sl (.pair (.int .i64) (.pair (.int .i64) (.pair (.int .u64) (.pair .str .unit))))) x0)), .v (.one (.d (.sl (.int .i64)) x1))] [] some = transomlaw06_RowsPicks.s1c g8 g9 g14 g15 g16 s0 s1 x0 x1 (fun r => some ⟨.v (.one (.d .bool r)), []⟩) := by
  kernel_rfl
mutual
def transomlaw06_RowsPicks.s0 : Nat → (List (Int × (Int × (Int × (ByteArray × Unit))))) → (List Int) → Bool → Option Bool
  | 0, _, _, _ => none
  | k + 1, x0, x1, x2 => transomlaw06_RowsPicks.s0c (transomlaw05_Few.f k) (transomlaw06_awake.f k) (transomref06_Same.f k) (rows_Pick.f k) (transomref06_Pick.f k) (transomlaw06_RowsPicks.s0 k) (transomlaw06_RowsPicks.s1 k) x0 x1 x2 some
def transomlaw06_RowsPicks.s1 : Nat → (List (Int × (Int × (Int × (ByteArray × Unit))))) → (List Int) → Option Bool
  | 0, _, _ => none
  | k + 1, x0, x1 => transomlaw06_RowsPicks.s1c (transomlaw05_Few.f k) (transomlaw06_awake.f k) (transomref06_Same.f k) (rows_Pick.f k) (transomref06_Pick.f k) (transomlaw06_RowsPicks.s0 k) (transomlaw06_RowsPicks.s1 k) x0 x1 some
end
def transomlaw06_RowsPicks.f (k : Nat) (a0 : List (Int × (Int × (Int × (ByteArray × Unit))))) (a1 : List Int) : Option Bool := transomlaw06_RowsPicks.c (transomlaw05_Few.f k) (transomlaw06_awake.f k) (transomref06_Same.f k) (rows_Pick.f k) (transomref06_Pick.f k) (transomlaw06_RowsPicks.s0 k) (transomlaw06_RowsPicks.s1 k) a0 a1 some
theorem transomlaw06_RowsPicks.is (g8 : (List (Int × (Int × (Int × (ByteArray × Unit))))) → Option Int) (g9 : Option Bool) (g14 : (List (Int × (Int × (Int × (ByteArray × Unit))))) → (List (Int × (Int × (Int × (ByteArray × Unit))))) → Option Bool) (g15 : (List (Int × (Int × (Int × (ByteArray × Unit))))) → (List Int) → Option ((List (Int × (Int × (Int × (ByteArray × Unit))))) × Int)) (g16 : (List (Int × (Int × (Int × (ByteArray × Unit))))) → (List Int) → Option ((List (Int × (Int × (Int × (ByteArray × Unit))))) × Int)) (s0 : (List (Int × (Int × (Int × (ByteArray × Unit))))) → (List Int) → Bool → Option Bool) (s1 : (List (Int × (Int × (Int × (ByteArray × Unit))))) → (List Int) → Option Bool) : FnIs (env_transomlaw06_RowsPicks g8 g9 g14 g15 g16 s0 s1) 6 Go.Proofs.Try.f6 := ⟨Go.Proofs.Try.func6, rfl, rfl, rfl, by decide⟩
theorem transomlaw06_RowsPicks.envok (g8 : (List (Int × (Int × (Int × (ByteArray × Unit))))) → Option Int) (g9 : Option Bool) (g14 : (List (Int × (Int × (Int × (ByteArray × Unit))))) → (List (Int × (Int × (Int × (ByteArray × Unit))))) → Option Bool) (g15 : (List (Int × (Int × (Int × (ByteArray × Unit))))) → (List Int) → Option ((List (Int × (Int × (Int × (ByteArray × Unit))))) × Int)) (g16 : (List (Int × (Int × (Int × (ByteArray × Unit))))) → (List Int) → Option ((List (Int × (Int × (Int × (ByteArray × Unit))))) × Int)) (s0 : (List (Int × (Int × (Int × (ByteArray × Unit))))) → (List Int) → Bool → Option Bool) (s1 : (List (Int × (Int × (Int × (ByteArray × Unit))))) → (List Int) → Option Bool) (h8 : CtOK Go.Proofs.Try.prog 8 (ct_transomlaw05_Few g8)) (h9 : CtOK Go.Proofs.Try.prog 9 (ct_transomlaw06_awake g9)) (h14 : CtOK Go.Proofs.Try.prog 14 (ct_transomref06_Same g14)) (h15 : CtOK Go.Proofs.Try.prog 15 (ct_rows_Pick g15)) (h16 : CtOK Go.Proofs.Try.prog 16 (ct_transomref06_Pick g16)) : EnvOK (env_transomlaw06_RowsPicks g8 g9 g14 g15 g16 s0 s1).toEnv := by
  intro f c h
  simp only [env_transomlaw06_RowsPicks] at h
  split at h
  · rename_i e; subst e; cases h; exact h8
  split at h
  · rename_i e; subst e; cases h; exact h9
  split at h
  · rename_i e; subst e; cases h; exact h14
  split at h
  · rename_i e; subst e; cases h; exact h15
  split at h
  · rename_i e; subst e; cases h; exact h16
  simp at h
theorem transomlaw06_RowsPicks.segs_ok : ∀ k, ∀ s ∈ (env_transomlaw06_RowsPicks (transomlaw05_Few.f k) (transomlaw06_awake.f k) (transomref06_Same.f k) (rows_Pick.f k) (transomref06_Pick.f k) (transomlaw06_RowsPicks.s0 k) (transomlaw06_RowsPicks.s1 k)).segs, SegOK (env_transomlaw06_RowsPicks (transomlaw05_Few.f k) (transomlaw06_awake.f k) (transomref06_Same.f k) (rows_Pick.f k) (transomref06_Pick.f k) (transomlaw06_RowsPicks.s0 k) (transomlaw06_RowsPicks.s1 k)) Go.Proofs.Try.f6 s
  | 0 => by
    intro s hs
    simp only [env_transomlaw06_RowsPicks, List.mem_cons, List.not_mem_nil, or_false] at hs
    rcases hs with rfl | rfl
    · intro tvs blks res h; exfalso; simp only [seg_transomlaw06_RowsPicks_0] at h; split at h <;> simp [transomlaw06_RowsPicks.s0] at h
    · intro tvs blks res h; exfalso; simp only [seg_transomlaw06_RowsPicks_1] at h; split at h <;> simp [transomlaw06_RowsPicks.s1] at h
  | k + 1 => by
    have ih := transomlaw06_RowsPicks.segs_ok k
    intro s hs
    simp only [env_transomlaw06_RowsPicks, List.mem_cons, List.not_mem_nil, or_false] at hs
    rcases hs with rfl | rfl
    · refine seg_of_ev (E := env_transomlaw06_RowsPicks (transomlaw05_Few.f k) (transomlaw06_awake.f k) (transomref06_Same.f k) (rows_Pick.f k) (transomref06_Pick.f k) (transomlaw06_RowsPicks.s0 k) (transomlaw06_RowsPicks.s1 k)) (transomlaw06_RowsPicks.envok _ _ _ _ _ _ _  (transomlaw05_Few.ok k) (transomlaw06_awake.ok k) (transomref06_Same.ok k) (rows_Pick.ok k) (transomref06_Pick.ok k)) ⟨(transomlaw06_RowsPicks.is (transomlaw05_Few.f k) (transomlaw06_awake.f k) (transomref06_Same.f k) (rows_Pick.f k) (transomref06_Pick.f k) (transomlaw06_RowsPicks.s0 k) (transomlaw06_RowsPicks.s1 k)).rvs⟩ ih ?_
      intro tvs blks res h
      simp only [seg_transomlaw06_RowsPicks_0] at h
      split at h
      · refine (transomlaw06_RowsPicks.s0_ev (transomlaw05_Few.f k) (transomlaw06_awake.f k) (transomref06_Same.f k) (rows_Pick.f k) (transomref06_Pick.f k) (transomlaw06_RowsPicks.s0 k) (transomlaw06_RowsPicks.s1 k) _ _ _ ).trans ?_
        rw [transomlaw06_RowsPicks.s0c_bind]
        exact h
      · simp at h
    · refine seg_of_ev (E := env_transomlaw06_RowsPicks (transomlaw05_Few.f k) (transomlaw06_awake.f k) (transomref06_Same.f k) (rows_Pick.f k) (transomref06_Pick.f k) (transomlaw06_RowsPicks.s0 k) (transomlaw06_RowsPicks.s1 k)) (transomlaw06_RowsPicks.envok _ _ _ _ _ _ _  (transomlaw05_Few.ok k) (transomlaw06_awake.ok k) (transomref06_Same.ok k) (rows_Pick.ok k) (transomref06_Pick.ok k)) ⟨(transomlaw06_RowsPicks.is (transomlaw05_Few.f k) (transomlaw06_awake.f k) (transomref06_Same.f k) (rows_Pick.f k) (transomref06_Pick.f k) (transomlaw06_RowsPicks.s0 k) (transomlaw06_RowsPicks.s1 k)).rvs⟩ ih ?_
      intro tvs blks res h
      simp only [seg_transomlaw06_RowsPicks_1] at h
      split at h
      · refine (transomlaw06_RowsPicks.s1_ev (transomlaw05_Few.f k) (transomlaw06_awake.f k) (transomref06_Same.f k) (rows_Pick.f k) (transomref06_Pick.f k) (transomlaw06_RowsPicks.s0 k) (transomlaw06_RowsPicks.s1 k) _ _ ).trans ?_
        rw [transomlaw06_RowsPicks.s1c_bind]
        exact h
      · simp at h
theorem transomlaw06_RowsPicks.ok (k : Nat) : CtOK Go.Proofs.Try.prog 6 (ct_transomlaw06_RowsPicks (transomlaw06_RowsPicks.f k)) := by
  refine ct_of_ev (E := env_transomlaw06_RowsPicks (transomlaw05_Few.f k) (transomlaw06_awake.f k) (transomref06_Same.f k) (rows_Pick.f k) (transomref06_Pick.f k) (transomlaw06_RowsPicks.s0 k) (transomlaw06_RowsPicks.s1 k)) (transomlaw06_RowsPicks.is _ _ _ _ _ _ _ ) (transomlaw06_RowsPicks.envok _ _ _ _ _ _ _  (transomlaw05_Few.ok k) (transomlaw06_awake.ok k) (transomref06_Same.ok k) (rows_Pick.ok k) (transomref06_Pick.ok k)) (transomlaw06_RowsPicks.segs_ok k) rfl ?_
  intro tvs blks res h
  simp only [ct_transomlaw06_RowsPicks] at h
  split at h
  · refine (transomlaw06_RowsPicks.ev (transomlaw05_Few.f k) (transomlaw06_awake.f k) (transomref06_Same.f k) (rows_Pick.f k) (transomref06_Pick.f k) (transomlaw06_RowsPicks.s0 k) (transomlaw06_RowsPicks.s1 k) _ _ ).trans ?_
    rw [transomlaw06_RowsPicks.c_bind]
    exact h
  · simp at h
end Go.Proofs.Ytlclhjdfbkenfaa.Aev
