/- By a program of this session (AEV): functions of the program as plain functions, and that the machine does what they say. -/
import Derived.Test.YtlclhjdfbkenfaaAevW
import Derived.Test.YtlclhjdfbkenfaaProg
import Derived.Laws.Externs
import Derived.Lib.Bytealg
import Derived.Test.YtlclhjdfbkenfaaF2
import Derived.Test.YtlclhjdfbkenfaaF4
import Derived.Test.YtlclhjdfbkenfaaF8
import Derived.Test.YtlclhjdfbkenfaaF15
namespace Go.Proofs.Ytlclhjdfbkenfaa.Aev
set_option linter.unusedVariables false
set_option linter.unusedSimpArgs false
set_option maxRecDepth 100000
set_option maxHeartbeats 4000000
open Go
/-! ### transomlaw06_RowsReads: function 4 -/
def ct_transomlaw06_RowsReads (g : ByteArray → Option Bool) : Ct where
  nin := 0
  mv := []
  F := fun tvs blks {β} K => match tvs, blks with
    | [.v (.one (.d .str a0))], [] => (g a0).bind fun r => K ⟨.v (.one (.d .bool r)), []⟩
    | _, _ => none
  legit := fun tvs blks K r h => by
    split at h
    · obtain ⟨x, hx, hk⟩ := Option.bind_eq_some_iff.1 h
      refine ⟨_, ?_, hk⟩
      simp only [hx, Option.bind_some]
    · simp at h
def seg_transomlaw06_RowsReads_0 (g : ByteArray → (List (Int × (Int × (Int × (ByteArray × Unit))))) → Int → Bool → Option Bool) : Seg where
  path := [1, 0, 1, 1, 1, 1]
  prep := []
  keep := [0, 3, 4, 31]
  F := fun tvs blks {β} K => match tvs, blks with
    | [.v (.one (.d .str x0)), .v (.one (.d (.sl (.pair (.int .i64) (.pair (.int .i64) (.pair (.int .u64) (.pair .str .unit))))) x1)), .v (.one (.d (.int .i64) x2)), .v (.one (.d .bool x3))], [] => (g x0 x1 x2 x3).bind fun r => K ⟨.v (.one (.d .bool r)), []⟩
    | _, _ => none
  legit := fun tvs blks K r h => by
    split at h
    · obtain ⟨x, hx, hk⟩ := Option.bind_eq_some_iff.1 h
      refine ⟨_, ?_, hk⟩
      simp only [hx, Option.bind_some]
    · simp at h
def seg_transomlaw06_RowsReads_1 (g : ByteArray → (List (Int × (Int × (Int × (ByteArray × Unit))))) → Int → Option Bool) : Seg where
  path := [1, 1, 1, 1, 1]
  prep := []
  keep := [0, 3, 4]
  F := fun tvs blks {β} K => match tvs, blks with
    | [.v (.one (.d .str x0)), .v (.one (.d (.sl (.pair (.int .i64) (.pair (.int .i64) (.pair (.int .u64) (.pair .str .unit))))) x1)), .v (.one (.d (.int .i64) x2))], [] => (g x0 x1 x2).bind fun r => K ⟨.v (.one (.d .bool r)), []⟩
    | _, _ => none
  legit := fun tvs blks K r h => by
    split at h
    · obtain ⟨x, hx, hk⟩ := Option.bind_eq_some_iff.1 h
      refine ⟨_, ?_, hk⟩
      simp only [hx, Option.bind_some]
    · simp at h
noncomputable def env_transomlaw06_RowsReads (g9 : Option Bool) (g10 : (List (Int × (Int × (Int × (ByteArray × Unit))))) → Option (ByteArray × Int)) (g12 : ByteArray → Option ((List (Int × (Int × (Int × (ByteArray × Unit))))) × Int)) (g13 : ByteArray → Option ((List (Int × (Int × (Int × (ByteArray × Unit))))) × Int)) (g14 : (List (Int × (Int × (Int × (ByteArray × Unit))))) → (List (Int × (Int × (Int × (ByteArray × Unit))))) → Option Bool) (s0 : ByteArray → (List (Int × (Int × (Int × (ByteArray × Unit))))) → Int → Bool → Option Bool) (s1 : ByteArray → (List (Int × (Int × (Int × (ByteArray × Unit))))) → Int → Option Bool) : FEnv := { P := Go.Proofs.Try.prog, ct := fun m => if m = 9 then some (ct_transomlaw06_awake g9) else if m = 10 then some (ct_rows_Put g10) else if m = 12 then some (ct_rows_Read g12) else if m = 13 then some (ct_transomref06_Read g13) else if m = 14 then some (ct_transomref06_Same g14) else none, N := 50, body := Go.Proofs.Try.f4.body.getD .skip, rvs := [.tmp 2], rts := [4], nin := 0, rmv := [], segs := [seg_transomlaw06_RowsReads_0 s0, seg_transomlaw06_RowsReads_1 s1] }
def transomlaw06_RowsReads.c {β : Type} (g9 : Option Bool) (g10 : (List (Int × (Int × (Int × (ByteArray × Unit))))) → Option (ByteArray × Int)) (g12 : ByteArray → Option ((List (Int × (Int × (Int × (ByteArray × Unit))))) × Int)) (g13 : ByteArray → Option ((List (Int × (Int × (Int × (ByteArray × Unit))))) × Int)) (g14 : (List (Int × (Int × (Int × (ByteArray × Unit))))) → (List (Int × (Int × (Int × (ByteArray × Unit))))) → Option Bool) (s0 : ByteArray → (List (Int × (Int × (Int × (ByteArray × Unit))))) → Int → Bool → Option Bool) (s1 : ByteArray → (List (Int × (Int × (Int × (ByteArray × Unit))))) → Int → Option Bool) (a0 : ByteArray) (ret : Bool → Option β) : Option β := (bif (decide (((ByteArray.size a0) : Int) > (2000 : Int))) then (g9.bind fun r0 => (ret (r0))) else ((g12 a0).bind fun r1 => ((g13 a0).bind fun r2 => ((g14 r1.1 r2.1).bind fun r3 => (bif (!r3) then ((s0 a0 r1.1 r1.2 true).bind ret) else ((s0 a0 r1.1 r1.2 (r1.2 != r2.2)).bind ret))))))
def transomlaw06_RowsReads.s0c {β : Type} (g9 : Option Bool) (g10 : (List (Int × (Int × (Int × (ByteArray × Unit))))) → Option (ByteArray × Int)) (g12 : ByteArray → Option ((List (Int × (Int × (Int × (ByteArray × Unit))))) × Int)) (g13 : ByteArray → Option ((List (Int × (Int × (Int × (ByteArray × Unit))))) × Int)) (g14 : (List (Int × (Int × (Int × (ByteArray × Unit))))) → (List (Int × (Int × (Int × (ByteArray × Unit))))) → Option Bool) (s0 : ByteArray → (List (Int × (Int × (Int × (ByteArray × Unit))))) → Int → Bool → Option Bool) (s1 : ByteArray → (List (Int × (Int × (Int × (ByteArray × Unit))))) → Int → Option Bool) (x0 : ByteArray) (x1 : List (Int × (Int × (Int × (ByteArray × Unit))))) (x2 : Int) (x3 : Bool) (ret : Bool → Option β) : Option β := (bif x3 then (ret (false)) else ((s1 x0 x1 x2).bind ret))
def transomlaw06_RowsReads.s1c {β : Type} (g9 : Option Bool) (g10 : (List (Int × (Int × (Int × (ByteArray × Unit))))) → Option (ByteArray × Int)) (g12 : ByteArray → Option ((List (Int × (Int × (Int × (ByteArray × Unit))))) × Int)) (g13 : ByteArray → Option ((List (Int × (Int × (Int × (ByteArray × Unit))))) × Int)) (g14 : (List (Int × (Int × (Int × (ByteArray × Unit))))) → (List (Int × (Int × (Int × (ByteArray × Unit))))) → Option Bool) (s0 : ByteArray → (List (Int × (Int × (Int × (ByteArray × Unit))))) → Int → Bool → Option Bool) (s1 : ByteArray → (List (Int × (Int × (Int × (ByteArray × Unit))))) → Int → Option Bool) (x0 : ByteArray) (x1 : List (Int × (Int × (Int × (ByteArray × Unit))))) (x2 : Int) (ret : Bool → Option β) : Option β := (bif (x2 != (0 : Int)) then (g9.bind fun r0 => (ret (r0))) else ((g10 x1).bind fun r1 => (bif ((ByteArray.toList r1.1) == (ByteArray.toList x0)) then (bif (r1.2 == (0 : Int)) then (g9.bind fun r2 => (ret (r2))) else (ret (false))) else (ret (false)))))
theorem transomlaw06_RowsReads.c_bind {β : Type} (g9 : Option Bool) (g10 : (List (Int × (Int × (Int × (ByteArray × Unit))))) → Option (ByteArray × Int)) (g12 : ByteArray → Option ((List (Int × (Int × (Int × (ByteArray × Unit))))) × Int)) (g13 : ByteArray → Option ((List (Int × (Int × (Int × (ByteArray × Unit))))) × Int)) (g14 : (List (Int × (Int × (Int × (ByteArray × Unit))))) → (List (Int × (Int × (Int × (ByteArray × Unit))))) → Option Bool) (s0 : ByteArray → (List (Int × (Int × (Int × (ByteArray × Unit))))) → Int → Bool → Option Bool) (s1 : ByteArray → (List (Int × (Int × (Int × (ByteArray × Unit))))) → Int → Option Bool) (a0 : ByteArray) (ret : Bool → Option β) : transomlaw06_RowsReads.c g9 g10 g12 g13 g14 s0 s1 a0 ret = (transomlaw06_RowsReads.c g9 g10 g12 g13 g14 s0 s1 a0 some).bind ret := by
  simp only [transomlaw06_RowsReads.c, bif_bind, sum_bind, Option.bind_assoc, Option.bind_some, Option.bind_none, Option.bind_fun_some]
theorem transomlaw06_RowsReads.s0c_bind {β : Type} (g9 : Option Bool) (g10 : (List (Int × (Int × (Int × (ByteArray × Unit))))) → Option (ByteArray × Int)) (g12 : ByteArray → Option ((List (Int × (Int × (Int × (ByteArray × Unit))))) × Int)) (g13 : ByteArray → Option ((List (Int × (Int × (Int × (ByteArray × Unit))))) × Int)) (g14 : (List (Int × (Int × (Int × (ByteArray × Unit))))) → (List (Int × (Int × (Int × (ByteArray × Unit))))) → Option Bool) (s0 : ByteArray → (List (Int × (Int × (Int × (ByteArray × Unit))))) → Int → Bool → Option Bool) (s1 : ByteArray → (List (Int × (Int × (Int × (ByteArray × Unit))))) → Int → Option Bool) (x0 : ByteArray) (x1 : List (Int × (Int × (Int × (ByteArray × Unit))))) (x2 : Int) (x3 : Bool) (ret : Bool → Option β) : transomlaw06_RowsReads.s0c g9 g10 g12 g13 g14 s0 s1 x0 x1 x2 x3 ret = (transomlaw06_RowsReads.s0c g9 g10 g12 g13 g14 s0 s1 x0 x1 x2 x3 some).bind ret := by
  simp only [transomlaw06_RowsReads.s0c, bif_bind, sum_bind, Option.bind_assoc, Option.bind_some, Option.bind_none, Option.bind_fun_some]
theorem transomlaw06_RowsReads.s1c_bind {β : Type} (g9 : Option Bool) (g10 : (List (Int × (Int × (Int × (ByteArray × Unit))))) → Option (ByteArray × Int)) (g12 : ByteArray → Option ((List (Int × (Int × (Int × (ByteArray × Unit))))) × Int)) (g13 : ByteArray → Option ((List (Int × (Int × (Int × (ByteArray × Unit))))) × Int)) (g14 : (List (Int × (Int × (Int × (ByteArray × Unit))))) → (List (Int × (Int × (Int × (ByteArray × Unit))))) → Option Bool) (s0 : ByteArray → (List (Int × (Int × (Int × (ByteArray × Unit))))) → Int → Bool → Option Bool) (s1 : ByteArray → (List (Int × (Int × (Int × (ByteArray × Unit))))) → Int → Option Bool) (x0 : ByteArray) (x1 : List (Int × (Int × (Int × (ByteArray × Unit))))) (x2 : Int) (ret : Bool → Option β) : transomlaw06_RowsReads.s1c g9 g10 g12 g13 g14 s0 s1 x0 x1 x2 ret = (transomlaw06_RowsReads.s1c g9 g10 g12 g13 g14 s0 s1 x0 x1 x2 some).bind ret := by
  simp only [transomlaw06_RowsReads.s1c, bif_bind, sum_bind, Option.bind_assoc, Option.bind_some, Option.bind_none, Option.bind_fun_some]
theorem transomlaw06_RowsReads.ev (g9 : Option Bool) (g10 : (List (Int × (Int × (Int × (ByteArray × Unit))))) → Option (ByteArray × Int)) (g12 : ByteArray → Option ((List (Int × (Int × (Int × (ByteArray × Unit))))) × Int)) (g13 : ByteArray → Option ((List (Int × (Int × (Int × (ByteArray × Unit))))) × Int)) (g14 : (List (Int × (Int × (Int × (ByteArray × Unit))))) → (List (Int × (Int × (Int × (ByteArray × Unit))))) → Option Bool) (s0 : ByteArray → (List (Int × (Int × (Int × (ByteArray × Unit))))) → Int → Bool → Option Bool) (s1 : ByteArray → (List (Int × (Int × (Int × (ByteArray × Unit))))) → Int → Option Bool) (a0 : ByteArray) : evAt (env_transomlaw06_RowsReads g9 g10 g12 g13 g14 s0 s1) [] [0] [.v (.one (.d .str a0))] [] some = transomlaw06_RowsReads.c g9 g10 g12 g13 g14 s0 s1 a0 (fun r => some ⟨.v (.one (.d .bool r)), []⟩) := by
  kernel_rfl
theorem transomlaw06_RowsReads.s0_ev (g9 : Option Bool) (g10 : (List (Int × (Int × (Int × (ByteArray × Unit))))) → Option (ByteArray × Int)) (g12 : ByteArray → Option ((List (Int × (Int × (Int × (ByteArray × Unit))))) × Int)) (g13 : ByteArray → Option ((List (Int × (Int × (Int × (ByteArray × Unit))))) × Int)) (g14 : (List (Int × (Int × (Int × (ByteArray × Unit))))) → (List (Int × (Int × (Int × (ByteArray × Unit))))) → Option Bool) (s0 : ByteArray → (List (Int × (Int × (Int × (ByteArray × Unit))))) → Int → Bool → Option Bool) (s1 : ByteArray → (List (Int × (Int × (Int × (ByteArray × Unit))))) → Int → Option Bool) (x0 : ByteArray) (x1 : List (Int × (Int × (Int × (ByteArray × Unit))))) (x2 : Int) (x3 : Bool) : evAt (env_transomlaw06_RowsReads g9 g10 g12 g13 g14 s0 s1) [1, 0, 1, 1, 1, 1] [0, 3, 4, 31] [.v (.one (.d .str x0)), .v (.one (.d (.sl (.pair (.int .i64) (.pair (.int .i64) (.pair (.int .u64) (.pair .str .unit))))) x1)), .v (.one (.d (.int .i64) x2)), .v (.one (.d .bool x3))] [] some = transomlaw06_RowsReads.s0c g9 g10 g12 g13 g14 s0 s1 x0 x1 x2 x3 (fun r => some ⟨.v (.one (.d .bool r)), []⟩) := by
  kernel_rfl
theorem transomlaw06_RowsReads.s1_ev (g9 : Option Bool) (g10 : (List (Int × (Int × (Int × (ByteArray × Unit))))) → Option (ByteArray × Int)) (g12 : ByteArray → Option ((List (Int × (Int × (Int × (ByteArray × Unit))))) × Int)) (g13 : ByteArray → Option ((List (Int × (Int × (Int × (ByteArray × Unit))))) × Int)) (g14 : (List (Int × (Int × (Int × (ByteArray × Unit))))) → (List (Int × (Int × (Int × (ByteArray × Unit))))) → Option Bool) (s0 : ByteArray → (List (Int × (Int × (Int × (ByteArray × Unit))))) → Int → Bool → Option Bool) (s1 : ByteArray → (List (Int × (Int × (Int × (ByteArray × Unit))))) → Int → Option Bool) (x0 : ByteArray) (x1 : List (Int × (Int × (Int × (ByteArray × Unit))))) (x2 : Int) : evAt (env_transomlaw06_RowsReads g9 g10 g12 g13 g14 s0 s1) [1, 1, 1, 1, 1] [0, 3, 4] [.v (.one (.d .str x0)), .v (.one (.d (.sl (.pair (.int .i64) (.pair (.int .i64) (.pair (.int .u64) (.pair .str .unit))))) x1)), .v (.one (.d (.int .i64) x2))] [] some = transomlaw06_RowsReads.s1c g9 g10 g12 g13 g14 s0 s1 x0 x1 x2 (fun r => some ⟨.v (.one (.d .bool r)), []⟩) := by
  kernel_rfl
mutual
def transomlaw06_RowsReads.s0 : Nat → ByteArray → (List (Int × (Int × (Int × (ByteArray × Unit))))) → Int → Bool → Option Bool
  | 0, _, _, _, _ => none
  | k + 1, x0, x1, x2, x3 => transomlaw06_RowsReads.s0c (transomlaw06_awake.f k) (rows_Put.f k) (rows_Read.f k) (transomref06_Read.f k) (transomref06_Same.f k) (transomlaw06_RowsReads.s0 k) (transomlaw06_RowsReads.s1 k) x0 x1 x2 x3 some
def transomlaw06_RowsReads.s1 : Nat → ByteArray → (List (Int × (Int × (Int × (ByteArray × Unit))))) → Int → Option Bool
  | 0, _, _, _ => none
  | k + 1, x0, x1, x2 => transomlaw06_RowsReads.s1c (transomlaw06_awake.f k) (rows_Put.f k) (rows_Read.f k) (transomref06_Read.f k) (transomref06_Same.f k) (transomlaw06_RowsReads.s0 k) (transomlaw06_RowsReads.s1 k) x0 x1 x2 some
end
def transomlaw06_RowsReads.f (k : Nat) (a0 : ByteArray) : Option Bool := transomlaw06_RowsReads.c (transomlaw06_awake.f k) (rows_Put.f k) (rows_Read.f k) (transomref06_Read.f k) (transomref06_Same.f k) (transomlaw06_RowsReads.s0 k) (transomlaw06_RowsReads.s1 k) a0 some
theorem transomlaw06_RowsReads.is (g9 : Option Bool) (g10 : (List (Int × (Int × (Int × (ByteArray × Unit))))) → Option (ByteArray × Int)) (g12 : ByteArray → Option ((List (Int × (Int × (Int × (ByteArray × Unit))))) × Int)) (g13 : ByteArray → Option ((List (Int × (Int × (Int × (ByteArray × Unit))))) × Int)) (g14 : (List (Int × (Int × (Int × (ByteArray × Unit))))) → (List (Int × (Int × (Int × (ByteArray × Unit))))) → Option Bool) (s0 : ByteArray → (List (Int × (Int × (Int × (ByteArray × Unit))))) → Int → Bool → Option Bool) (s1 : ByteArray → (List (Int × (Int × (Int × (ByteArray × Unit))))) → Int → Option Bool) : FnIs (env_transomlaw06_RowsReads g9 g10 g12 g13 g14 s0 s1) 4 Go.Proofs.Try.f4 := ⟨Go.Proofs.Try.func4, rfl, rfl, rfl, by decide⟩
theorem transomlaw06_RowsReads.envok (g9 : Option Bool) (g10 : (List (Int × (Int × (Int × (ByteArray × Unit))))) → Option (ByteArray × Int)) (g12 : ByteArray → Option ((List (Int × (Int × (Int × (ByteArray × Unit))))) × Int)) (g13 : ByteArray → Option ((List (Int × (Int × (Int × (ByteArray × Unit))))) × Int)) (g14 : (List (Int × (Int × (Int × (ByteArray × Unit))))) → (List (Int × (Int × (Int × (ByteArray × Unit))))) → Option Bool) (s0 : ByteArray → (List (Int × (Int × (Int × (ByteArray × Unit))))) → Int → Bool → Option Bool) (s1 : ByteArray → (List (Int × (Int × (Int × (ByteArray × Unit))))) → Int → Option Bool) (h9 : CtOK Go.Proofs.Try.prog 9 (ct_transomlaw06_awake g9)) (h10 : CtOK Go.Proofs.Try.prog 10 (ct_rows_Put g10)) (h12 : CtOK Go.Proofs.Try.prog 12 (ct_rows_Read g12)) (h13 : CtOK Go.Proofs.Try.prog 13 (ct_transomref06_Read g13)) (h14 : CtOK Go.Proofs.Try.prog 14 (ct_transomref06_Same g14)) : EnvOK (env_transomlaw06_RowsReads g9 g10 g12 g13 g14 s0 s1).toEnv := by
  intro f c h
  simp only [env_transomlaw06_RowsReads] at h
  split at h
  · rename_i e; subst e; cases h; exact h9
  split at h
  · rename_i e; subst e; cases h; exact h10
  split at h
  · rename_i e; subst e; cases h; exact h12
  split at h
  · rename_i e; subst e; cases h; exact h13
  split at h
  · rename_i e; subst e; cases h; exact h14
  simp at h
theorem transomlaw06_RowsReads.segs_ok : ∀ k, ∀ s ∈ (env_transomlaw06_RowsReads (transomlaw06_awake.f k) (rows_Put.f k) (rows_Read.f k) (transomref06_Read.f k) (transomref06_Same.f k) (transomlaw06_RowsReads.s0 k) (transomlaw06_RowsReads.s1 k)).segs, SegOK (env_transomlaw06_RowsReads (transomlaw06_awake.f k) (rows_Put.f k) (rows_Read.f k) (transomref06_Read.f k) (transomref06_Same.f k) (transomlaw06_RowsReads.s0 k) (transomlaw06_RowsReads.s1 k)) Go.Proofs.Try.f4 s
  | 0 => by
    intro s hs
    simp only [env_transomlaw06_RowsReads, List.mem_cons, List.not_mem_nil, or_false] at hs
    rcases hs with rfl | rfl
    · intro tvs blks res h; exfalso; simp only [seg_transomlaw06_RowsReads_0] at h; split at h <;> simp [transomlaw06_RowsReads.s0] at h
    · intro tvs blks res h; exfalso; simp only [seg_transomlaw06_RowsReads_1] at h; split at h <;> simp [transomlaw06_RowsReads.s1] at h
  | k + 1 => by
    have ih := transomlaw06_RowsReads.segs_ok k
    intro s hs
    simp only [env_transomlaw06_RowsReads, List.mem_cons, List.not_mem_nil, or_false] at hs
    rcases hs with rfl | rfl
    · refine seg_of_ev (E := env_transomlaw06_RowsReads (transomlaw06_awake.f k) (rows_Put.f k) (rows_Read.f k) (transomref06_Read.f k) (transomref06_Same.f k) (transomlaw06_RowsReads.s0 k) (transomlaw06_RowsReads.s1 k)) (transomlaw06_RowsReads.envok _ _ _ _ _ _ _  (transomlaw06_awake.ok k) (rows_Put.ok k) (rows_Read.ok k) (transomref06_Read.ok k) (transomref06_Same.ok k)) ⟨(transomlaw06_RowsReads.is (transomlaw06_awake.f k) (rows_Put.f k) (rows_Read.f k) (transomref06_Read.f k) (transomref06_Same.f k) (transomlaw06_RowsReads.s0 k) (transomlaw06_RowsReads.s1 k)).rvs⟩ ih ?_
      intro tvs blks res h
      simp only [seg_transomlaw06_RowsReads_0] at h
      split at h
      · refine (transomlaw06_RowsReads.s0_ev (transomlaw06_awake.f k) (rows_Put.f k) (rows_Read.f k) (transomref06_Read.f k) (transomref06_Same.f k) (transomlaw06_RowsReads.s0 k) (transomlaw06_RowsReads.s1 k) _ _ _ _ ).trans ?_
        rw [transomlaw06_RowsReads.s0c_bind]
        exact h
      · simp at h
    · refine seg_of_ev (E := env_transomlaw06_RowsReads (transomlaw06_awake.f k) (rows_Put.f k) (rows_Read.f k) (transomref06_Read.f k) (transomref06_Same.f k) (transomlaw06_RowsReads.s0 k) (transomlaw06_RowsReads.s1 k)) (transomlaw06_RowsReads.envok _ _ _ _ _ _ _  (transomlaw06_awake.ok k) (rows_Put.ok k) (rows_Read.ok k) (transomref06_Read.ok k) (transomref06_Same.ok k)) ⟨(transomlaw06_RowsReads.is (transomlaw06_awake.f k) (rows_Put.f k) (rows_Read.f k) (transomref06_Read.f k) (transomref06_Same.f k) (transomlaw06_RowsReads.s0 k) (transomlaw06_RowsReads.s1 k)).rvs⟩ ih ?_
      intro tvs blks res h
      simp only [seg_transomlaw06_RowsReads_1] at h
      split at h
      · refine (transomlaw06_RowsReads.s1_ev (transomlaw06_awake.f k) (rows_Put.f k) (rows_Read.f k) (transomref06_Read.f k) (transomref06_Same.f k) (transomlaw06_RowsReads.s0 k) (transomlaw06_RowsReads.s1 k) _ _ _ ).trans ?_
        rw [transomlaw06_RowsReads.s1c_bind]
        exact h
      · simp at h
theorem transomlaw06_RowsReads.ok (k : Nat) : CtOK Go.Proofs.Try.prog 4 (ct_transomlaw06_RowsReads (transomlaw06_RowsReads.f k)) := by
  refine ct_of_ev (E := env_transomlaw06_RowsReads (transomlaw06_awake.f k) (rows_Put.f k) (rows_Read.f k) (transomref06_Read.f k) (transomref06_Same.f k) (transomlaw06_RowsReads.s0 k) (transomlaw06_RowsReads.s1 k)) (transomlaw06_RowsReads.is _ _ _ _ _ _ _ ) (transomlaw06_RowsReads.envok _ _ _ _ _ _ _  (transomlaw06_awake.ok k) (rows_Put.ok k) (rows_Read.ok k) (transomref06_Read.ok k) (transomref06_Same.ok k)) (transomlaw06_RowsReads.segs_ok k) rfl ?_
  intro tvs blks res h
  simp only [ct_transomlaw06_RowsReads] at h
  split at h
  · refine (transomlaw06_RowsReads.ev (transomlaw06_awake.f k) (rows_Put.f k) (rows_Read.f k) (transomref06_Read.f k) (transomref06_Same.f k) (transomlaw06_RowsReads.s0 k) (transomlaw06_RowsReads.s1 k) _ ).trans ?_
    rw [transomlaw06_RowsReads.c_bind]
    exact h
  · simp at h
end Go.Proofs.Ytlclhjdfbkenfaa.Aev
