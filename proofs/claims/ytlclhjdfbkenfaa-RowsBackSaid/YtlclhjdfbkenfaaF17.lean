/- By a program of this session (AEV): functions of the program as plain functions, and that the machine does what they say. -/
import Derived.Test.YtlclhjdfbkenfaaAevW
import Derived.Test.YtlclhjdfbkenfaaProg
import Derived.Laws.Externs
import Derived.Lib.Bytealg
import Derived.Test.YtlclhjdfbkenfaaF0
import Derived.Test.YtlclhjdfbkenfaaF2
import Derived.Test.YtlclhjdfbkenfaaF4
import Derived.Test.YtlclhjdfbkenfaaF8
import Derived.Test.YtlclhjdfbkenfaaF15
namespace Go.Proofs.Ytlclhjdfbkenfaa.Aev
set_option linter.unusedVariables false
set_option linter.unusedSimpArgs false
set_option maxRecDepth 100000
set_option maxHeartbeats 4000000
open Go
/-! ### transomlaw06_RowsBack: function 5 -/
def ct_transomlaw06_RowsBack (g : (List (Int × (Int × (Int × (ByteArray × Unit))))) → Option Bool) : Ct where
  nin := 0
  mv := []
  F := fun tvs blks {β} K => match tvs, blks with
    | [.v (.one (.d (.sl (.pair (.int .i64) (.pair (.int .i64) (.pair (.int .u64) (.pair .str .unit))))) a0))], [] => (g a0).bind fun r => K ⟨.v (.one (.d .bool r)), []⟩
    | _, _ => none
  legit := fun tvs blks K r h => by
    split at h
    · obtain ⟨x, hx, hk⟩ := Option.bind_eq_some_iff.1 h
      refine ⟨_, ?_, hk⟩
      simp only [hx, Option.bind_some]
    · simp at h
def seg_transomlaw06_RowsBack_0 (g : Bool → Option Bool) : Seg where
  path := [1, 2, 1, 0, 1, 1, 1]
  prep := []
  keep := [2]
  F := fun tvs blks {β} K => match tvs, blks with
    | [.v (.one (.d .bool x0))], [] => (g x0).bind fun r => K ⟨.v (.one (.d .bool r)), []⟩
    | _, _ => none
  legit := fun tvs blks K r h => by
    split at h
    · obtain ⟨x, hx, hk⟩ := Option.bind_eq_some_iff.1 h
      refine ⟨_, ?_, hk⟩
      simp only [hx, Option.bind_some]
    · simp at h
noncomputable def env_transomlaw06_RowsBack (g8 : (List (Int × (Int × (Int × (ByteArray × Unit))))) → Option Int) (g9 : Option Bool) (g10 : (List (Int × (Int × (Int × (ByteArray × Unit))))) → Option (ByteArray × Int)) (g12 : ByteArray → Option ((List (Int × (Int × (Int × (ByteArray × Unit))))) × Int)) (g14 : (List (Int × (Int × (Int × (ByteArray × Unit))))) → (List (Int × (Int × (Int × (ByteArray × Unit))))) → Option Bool) (s0 : Bool → Option Bool) : FEnv := { P := Go.Proofs.Try.prog, ct := fun m => if m = 8 then some (ct_transomlaw05_Few g8) else if m = 9 then some (ct_transomlaw06_awake g9) else if m = 10 then some (ct_rows_Put g10) else if m = 12 then some (ct_rows_Read g12) else if m = 14 then some (ct_transomref06_Same g14) else none, N := 38, body := Go.Proofs.Try.f5.body.getD .skip, rvs := [.tmp 2], rts := [4], nin := 0, rmv := [], segs := [seg_transomlaw06_RowsBack_0 s0] }
def transomlaw06_RowsBack.c {β : Type} (g8 : (List (Int × (Int × (Int × (ByteArray × Unit))))) → Option Int) (g9 : Option Bool) (g10 : (List (Int × (Int × (Int × (ByteArray × Unit))))) → Option (ByteArray × Int)) (g12 : ByteArray → Option ((List (Int × (Int × (Int × (ByteArray × Unit))))) × Int)) (g14 : (List (Int × (Int × (Int × (ByteArray × Unit))))) → (List (Int × (Int × (Int × (ByteArray × Unit))))) → Option Bool) (s0 : Bool → Option Bool) (a0 : List (Int × (Int × (Int × (ByteArray × Unit))))) (ret : Bool → Option β) : Option β := ((g8 a0).bind fun r0 => (bif (r0 == (0 : Int)) then (g9.bind fun r1 => (ret (r1))) else ((g10 a0).bind fun r2 => (bif (r2.2 != (0 : Int)) then (bif ((ByteArray.toList r2.1) == (ByteArray.toList (ByteArray.mk (List.toArray [])))) then (g9.bind fun r3 => ((s0 r3).bind ret)) else ((s0 false).bind ret)) else ((g12 r2.1).bind fun r4 => (bif (r4.2 == (0 : Int)) then ((g14 a0 r4.1).bind fun r5 => (bif r5 then (g9.bind fun r6 => (ret (r6))) else (ret (false)))) else (ret (false))))))))
def transomlaw06_RowsBack.s0c {β : Type} (g8 : (List (Int × (Int × (Int × (ByteArray × Unit))))) → Option Int) (g9 : Option Bool) (g10 : (List (Int × (Int × (Int × (ByteArray × Unit))))) → Option (ByteArray × Int)) (g12 : ByteArray → Option ((List (Int × (Int × (Int × (ByteArray × Unit))))) × Int)) (g14 : (List (Int × (Int × (Int × (ByteArray × Unit))))) → (List (Int × (Int × (Int × (ByteArray × Unit))))) → Option Bool) (s0 : Bool → Option Bool) (x0 : Bool) (ret : Bool → Option β) : Option β := (ret (x0))
theorem transomlaw06_RowsBack.c_bind {β : Type} (g8 : (List (Int × (Int × (Int × (ByteArray × Unit))))) → Option Int) (g9 : Option Bool) (g10 : (List (Int × (Int × (Int × (ByteArray × Unit))))) → Option (ByteArray × Int)) (g12 : ByteArray → Option ((List (Int × (Int × (Int × (ByteArray × Unit))))) × Int)) (g14 : (List (Int × (Int × (Int × (ByteArray × Unit))))) → (List (Int × (Int × (Int × (ByteArray × Unit))))) → Option Bool) (s0 : Bool → Option Bool) (a0 : List (Int × (Int × (Int × (ByteArray × Unit))))) (ret : Bool → Option β) : transomlaw06_RowsBack.c g8 g9 g10 g12 g14 s0 a0 ret = (transomlaw06_RowsBack.c g8 g9 g10 g12 g14 s0 a0 some).bind ret := by
  simp only [transomlaw06_RowsBack.c, bif_bind, sum_bind, Option.bind_assoc, Option.bind_some, Option.bind_none, Option.bind_fun_some]
theorem transomlaw06_RowsBack.s0c_bind {β : Type} (g8 : (List (Int × (Int × (Int × (ByteArray × Unit))))) → Option Int) (g9 : Option Bool) (g10 : (List (Int × (Int × (Int × (ByteArray × Unit))))) → Option (ByteArray × Int)) (g12 : ByteArray → Option ((List (Int × (Int × (Int × (ByteArray × Unit))))) × Int)) (g14 : (List (Int × (Int × (Int × (ByteArray × Unit))))) → (List (Int × (Int × (Int × (ByteArray × Unit))))) → Option Bool) (s0 : Bool → Option Bool) (x0 : Bool) (ret : Bool → Option β) : transomlaw06_RowsBack.s0c g8 g9 g10 g12 g14 s0 x0 ret = (transomlaw06_RowsBack.s0c g8 g9 g10 g12 g14 s0 x0 some).bind ret := by
  simp only [transomlaw06_RowsBack.s0c, bif_bind, sum_bind, Option.bind_assoc, Option.bind_some, Option.bind_none, Option.bind_fun_some]
theorem transomlaw06_RowsBack.ev (g8 : (List (Int × (Int × (Int × (ByteArray × Unit))))) → Option Int) (g9 : Option Bool) (g10 : (List (Int × (Int × (Int × (ByteArray × Unit))))) → Option (ByteArray × Int)) (g12 : ByteArray → Option ((List (Int × (Int × (Int × (ByteArray × Unit))))) × Int)) (g14 : (List (Int × (Int × (Int × (ByteArray × Unit))))) → (List (Int × (Int × (Int × (ByteArray × Unit))))) → Option Bool) (s0 : Bool → Option Bool) (a0 : List (Int × (Int × (Int × (ByteArray × Unit))))) : evAt (env_transomlaw06_RowsBack g8 g9 g10 g12 g14 s0) [] [0] [.v (.one (.d (.sl (.pair (.int .i64) (.pair (.int .i64) (.pair (.int .u64) (.pair .str .unit))))) a0))] [] some = transomlaw06_RowsBack.c g8 g9 g10 g12 g14 s0 a0 (fun r => some ⟨.v (.one (.d .bool r)), []⟩) := by
  kernel_rfl
theorem transomlaw06_RowsBack.s0_ev (g8 : (List (Int × (Int × (Int × (ByteArray × Unit))))) → Option Int) (g9 : Option Bool) (g10 : (List (Int × (Int × (Int × (ByteArray × Unit))))) → Option (ByteArray × Int)) (g12 : ByteArray → Option ((List (Int × (Int × (Int × (ByteArray × Unit))))) × Int)) (g14 : (List (Int × (Int × (Int × (ByteArray × Unit))))) → (List (Int × (Int × (Int × (ByteArray × Unit))))) → Option Bool) (s0 : Bool → Option Bool) (x0 : Bool) : evAt (env_transomlaw06_RowsBack g8 g9 g10 g12 g14 s0) [1, 2, 1, 0, 1, 1, 1] [2] [.v (.one (.d .bool x0))] [] some = transomlaw06_RowsBack.s0c g8 g9 g10 g12 g14 s0 x0 (fun r => some ⟨.v (.one (.d .bool r)), []⟩) := by
  kernel_rfl
def transomlaw06_RowsBack.s0 : Nat → Bool → Option Bool
  | 0, _ => none
  | k + 1, x0 => transomlaw06_RowsBack.s0c (transomlaw05_Few.f k) (transomlaw06_awake.f k) (rows_Put.f k) (rows_Read.f k) (transomref06_Same.f k) (transomlaw06_RowsBack.s0 k) x0 some
def transomlaw06_RowsBack.f (k : Nat) (a0 : List (Int × (Int × (Int × (ByteArray × Unit))))) : Option Bool := transomlaw06_RowsBack.c (transomlaw05_Few.f k) (transomlaw06_awake.f k) (rows_Put.f k) (rows_Read.f k) (transomref06_Same.f k) (transomlaw06_RowsBack.s0 k) a0 some
theorem transomlaw06_RowsBack.is (g8 : (List (Int × (Int × (Int × (ByteArray × Unit))))) → Option Int) (g9 : Option Bool) (g10 : (List (Int × (Int × (Int × (ByteArray × Unit))))) → Option (ByteArray × Int)) (g12 : ByteArray → Option ((List (Int × (Int × (Int × (ByteArray × Unit))))) × Int)) (g14 : (List (Int × (Int × (Int × (ByteArray × Unit))))) → (List (Int × (Int × (Int × (ByteArray × Unit))))) → Option Bool) (s0 : Bool → Option Bool) : FnIs (env_transomlaw06_RowsBack g8 g9 g10 g12 g14 s0) 5 Go.Proofs.Try.f5 := ⟨Go.Proofs.Try.func5, rfl, rfl, rfl, by decide⟩
theorem transomlaw06_RowsBack.envok (g8 : (List (Int × (Int × (Int × (ByteArray × Unit))))) → Option Int) (g9 : Option Bool) (g10 : (List (Int × (Int × (Int × (ByteArray × Unit))))) → Option (ByteArray × Int)) (g12 : ByteArray → Option ((List (Int × (Int × (Int × (ByteArray × Unit))))) × Int)) (g14 : (List (Int × (Int × (Int × (ByteArray × Unit))))) → (List (Int × (Int × (Int × (ByteArray × Unit))))) → Option Bool) (s0 : Bool → Option Bool) (h8 : CtOK Go.Proofs.Try.prog 8 (ct_transomlaw05_Few g8)) (h9 : CtOK Go.Proofs.Try.prog 9 (ct_transomlaw06_awake g9)) (h10 : CtOK Go.Proofs.Try.prog 10 (ct_rows_Put g10)) (h12 : CtOK Go.Proofs.Try.prog 12 (ct_rows_Read g12)) (h14 : CtOK Go.Proofs.Try.prog 14 (ct_transomref06_Same g14)) : EnvOK (env_transomlaw06_RowsBack g8 g9 g10 g12 g14 s0).toEnv := by
  intro f c h
  simp only [env_transomlaw06_RowsBack] at h
  split at h
  · rename_i e; subst e; cases h; exact h8
  split at h
  · rename_i e; subst e; cases h; exact h9
  split at h
  · rename_i e; subst e; cases h; exact h10
  split at h
  · rename_i e; subst e; cases h; exact h12
  split at h
  · rename_i e; subst e; cases h; exact h14
  simp at h
theorem transomlaw06_RowsBack.segs_ok : ∀ k, ∀ s ∈ (env_transomlaw06_RowsBack (transomlaw05_Few.f k) (transomlaw06_awake.f k) (rows_Put.f k) (rows_Read.f k) (transomref06_Same.f k) (transomlaw06_RowsBack.s0 k)).segs, SegOK (env_transomlaw06_RowsBack (transomlaw05_Few.f k) (transomlaw06_awake.f k) (rows_Put.f k) (rows_Read.f k) (transomref06_Same.f k) (transomlaw06_RowsBack.s0 k)) Go.Proofs.Try.f5 s
  | 0 => by
    intro s hs
    simp only [env_transomlaw06_RowsBack, List.mem_cons, List.not_mem_nil, or_false] at hs
    rcases hs with rfl
    · intro tvs blks res h; exfalso; simp only [seg_transomlaw06_RowsBack_0] at h; split at h <;> simp [transomlaw06_RowsBack.s0] at h
  | k + 1 => by
    have ih := transomlaw06_RowsBack.segs_ok k
    intro s hs
    simp only [env_transomlaw06_RowsBack, List.mem_cons, List.not_mem_nil, or_false] at hs
    rcases hs with rfl
    · refine seg_of_ev (E := env_transomlaw06_RowsBack (transomlaw05_Few.f k) (transomlaw06_awake.f k) (rows_Put.f k) (rows_Read.f k) (transomref06_Same.f k) (transomlaw06_RowsBack.s0 k)) (transomlaw06_RowsBack.envok _ _ _ _ _ _  (transomlaw05_Few.ok k) (transomlaw06_awake.ok k) (rows_Put.ok k) (rows_Read.ok k) (transomref06_Same.ok k)) ⟨(transomlaw06_RowsBack.is (transomlaw05_Few.f k) (transomlaw06_awake.f k) (rows_Put.f k) (rows_Read.f k) (transomref06_Same.f k) (transomlaw06_RowsBack.s0 k)).rvs⟩ ih ?_
      intro tvs blks res h
      simp only [seg_transomlaw06_RowsBack_0] at h
      split at h
      · refine (transomlaw06_RowsBack.s0_ev (transomlaw05_Few.f k) (transomlaw06_awake.f k) (rows_Put.f k) (rows_Read.f k) (transomref06_Same.f k) (transomlaw06_RowsBack.s0 k) _ ).trans ?_
        rw [transomlaw06_RowsBack.s0c_bind]
        exact h
      · simp at h
theorem transomlaw06_RowsBack.ok (k : Nat) : CtOK Go.Proofs.Try.prog 5 (ct_transomlaw06_RowsBack (transomlaw06_RowsBack.f k)) := by
  refine ct_of_ev (E := env_transomlaw06_RowsBack (transomlaw05_Few.f k) (transomlaw06_awake.f k) (rows_Put.f k) (rows_Read.f k) (transomref06_Same.f k) (transomlaw06_RowsBack.s0 k)) (transomlaw06_RowsBack.is _ _ _ _ _ _ ) (transomlaw06_RowsBack.envok _ _ _ _ _ _  (transomlaw05_Few.ok k) (transomlaw06_awake.ok k) (rows_Put.ok k) (rows_Read.ok k) (transomref06_Same.ok k)) (transomlaw06_RowsBack.segs_ok k) rfl ?_
  intro tvs blks res h
  simp only [ct_transomlaw06_RowsBack] at h
  split at h
  · refine (transomlaw06_RowsBack.ev (transomlaw05_Few.f k) (transomlaw06_awake.f k) (rows_Put.f k) (rows_Read.f k) (transomref06_Same.f k) (transomlaw06_RowsBack.s0 k) _ ).trans ?_
    rw [transomlaw06_RowsBack.c_bind]
    exact h
  · simp at h
end Go.Proofs.Ytlclhjdfbkenfaa.Aev
