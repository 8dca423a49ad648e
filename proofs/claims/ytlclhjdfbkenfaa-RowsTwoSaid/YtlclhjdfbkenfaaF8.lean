/- By a program of this session (AEV): functions of the program as plain functions, and that the machine does what they say. -/
import Derived.Test.YtlclhjdfbkenfaaAevW
import Derived.Test.YtlclhjdfbkenfaaProg
import Derived.Laws.Externs
import Derived.Lib.Bytealg
import Derived.Test.YtlclhjdfbkenfaaF2
import Derived.Test.YtlclhjdfbkenfaaF4
import Derived.Test.YtlclhjdfbkenfaaF5
import Derived.Test.YtlclhjdfbkenfaaF6
import Derived.Test.YtlclhjdfbkenfaaF7
namespace Go.Proofs.Ytlclhjdfbkenfaa.Aev
set_option linter.unusedVariables false
set_option linter.unusedSimpArgs false
set_option maxRecDepth 100000
set_option maxHeartbeats 4000000
open Go
/-! ### rows_Cmp: function 18 -/
def ct_rows_Cmp (g : (List (Int × (Int × (Int × (ByteArray × Unit))))) → (List (Int × (Int × (Int × (ByteArray × Unit))))) → Option Int) : Ct where
  nin := 0
  mv := []
  F := fun tvs blks {β} K => match tvs, blks with
    | [.v (.one (.d (.sl (.pair (.int .i64) (.pair (.int .i64) (.pair (.int .u64) (.pair .str .unit))))) a0)), .v (.one (.d (.sl (.pair (.int .i64) (.pair (.int .i64) (.pair (.int .u64) (.pair .str .unit))))) a1))], [] => (g a0 a1).bind fun r => K ⟨.v (.one (.d (.int .i64) r)), []⟩
    | _, _ => none
  legit := fun tvs blks K r h => by
    split at h
    · obtain ⟨x, hx, hk⟩ := Option.bind_eq_some_iff.1 h
      refine ⟨_, ?_, hk⟩
      simp only [hx, Option.bind_some]
    · simp at h
def seg_rows_Cmp_0 (g : (List (Int × (Int × (Int × (ByteArray × Unit))))) → (List (Int × (Int × (Int × (ByteArray × Unit))))) → Int → Bool → Option Int) : Seg where
  path := [1, 4, 0, 1, 1]
  prep := []
  keep := [0, 1, 5, 9]
  F := fun tvs blks {β} K => match tvs, blks with
    | [.v (.one (.d (.sl (.pair (.int .i64) (.pair (.int .i64) (.pair (.int .u64) (.pair .str .unit))))) x0)), .v (.one (.d (.sl (.pair (.int .i64) (.pair (.int .i64) (.pair (.int .u64) (.pair .str .unit))))) x1)), .v (.one (.d (.int .i64) x2)), .v (.one (.d .bool x3))], [] => (g x0 x1 x2 x3).bind fun r => K ⟨.v (.one (.d (.int .i64) r)), []⟩
    | _, _ => none
  legit := fun tvs blks K r h => by
    split at h
    · obtain ⟨x, hx, hk⟩ := Option.bind_eq_some_iff.1 h
      refine ⟨_, ?_, hk⟩
      simp only [hx, Option.bind_some]
    · simp at h
noncomputable def env_rows_Cmp (g32_0 : (List (Int × (Int × (Int × (ByteArray × Unit))))) → (List (Int × (Int × (Int × (ByteArray × Unit))))) → Option Int) (g32_1 : (List (Int × (Int × (Int × (ByteArray × Unit))))) → (List (Int × (Int × (Int × (ByteArray × Unit))))) → Option Int) (g34 : Int → Int → Int → ByteArray → Int → Int → Int → ByteArray → Option Bool) (g35 : Int → Int → Int → ByteArray → Int → Int → Int → ByteArray → Option Int) (s0 : (List (Int × (Int × (Int × (ByteArray × Unit))))) → (List (Int × (Int × (Int × (ByteArray × Unit))))) → Int → Bool → Option Int) : FEnv := { P := Go.Proofs.Try.prog, ct := fun m => if m = 32 then some (ct_api_Value g32_0 g32_1) else if m = 34 then some (ct_rows_Cmp_1 g34) else if m = 35 then some (ct_values_Cmp g35) else none, N := 39, body := Go.Proofs.Try.f18.body.getD .skip, rvs := [.tmp 4], rts := [3], nin := 0, rmv := [], segs := [seg_rows_Cmp_0 s0] }
def rows_Cmp.c {β : Type} (g32_0 : (List (Int × (Int × (Int × (ByteArray × Unit))))) → (List (Int × (Int × (Int × (ByteArray × Unit))))) → Option Int) (g32_1 : (List (Int × (Int × (Int × (ByteArray × Unit))))) → (List (Int × (Int × (Int × (ByteArray × Unit))))) → Option Int) (g34 : Int → Int → Int → ByteArray → Int → Int → Int → ByteArray → Option Bool) (g35 : Int → Int → Int → ByteArray → Int → Int → Int → ByteArray → Option Int) (s0 : (List (Int × (Int × (Int × (ByteArray × Unit))))) → (List (Int × (Int × (Int × (ByteArray × Unit))))) → Int → Bool → Option Int) (a0 : List (Int × (Int × (Int × (ByteArray × Unit))))) (a1 : List (Int × (Int × (Int × (ByteArray × Unit))))) (ret : Int → Option β) : Option β := ((g32_1 a0 a1).bind fun r0 => (bif (decide (r0 < ((List.length a0) : Int))) then ((s0 a0 a1 r0 (decide (r0 < ((List.length a1) : Int)))).bind ret) else ((s0 a0 a1 r0 false).bind ret)))
def rows_Cmp.s0c {β : Type} (g32_0 : (List (Int × (Int × (Int × (ByteArray × Unit))))) → (List (Int × (Int × (Int × (ByteArray × Unit))))) → Option Int) (g32_1 : (List (Int × (Int × (Int × (ByteArray × Unit))))) → (List (Int × (Int × (Int × (ByteArray × Unit))))) → Option Int) (g34 : Int → Int → Int → ByteArray → Int → Int → Int → ByteArray → Option Bool) (g35 : Int → Int → Int → ByteArray → Int → Int → Int → ByteArray → Option Int) (s0 : (List (Int × (Int × (Int × (ByteArray × Unit))))) → (List (Int × (Int × (Int × (ByteArray × Unit))))) → Int → Bool → Option Int) (x0 : List (Int × (Int × (Int × (ByteArray × Unit))))) (x1 : List (Int × (Int × (Int × (ByteArray × Unit))))) (x2 : Int) (x3 : Bool) (ret : Int → Option β) : Option β := (bif x3 then (bif ((decide ((0 : Int) ≤ x2)) && (decide (x2 < ((List.length x0) : Int)))) then (bif ((decide ((0 : Int) ≤ x2)) && (decide (x2 < ((List.length x1) : Int)))) then ((g35 (elem (Ty.pair (Ty.int IntKind.i64) (Ty.pair (Ty.int IntKind.i64) (Ty.pair (Ty.int IntKind.u64) (Ty.pair Ty.str Ty.unit)))) x0 x2).1 (elem (Ty.pair (Ty.int IntKind.i64) (Ty.pair (Ty.int IntKind.i64) (Ty.pair (Ty.int IntKind.u64) (Ty.pair Ty.str Ty.unit)))) x0 x2).2.1 (elem (Ty.pair (Ty.int IntKind.i64) (Ty.pair (Ty.int IntKind.i64) (Ty.pair (Ty.int IntKind.u64) (Ty.pair Ty.str Ty.unit)))) x0 x2).2.2.1 (elem (Ty.pair (Ty.int IntKind.i64) (Ty.pair (Ty.int IntKind.i64) (Ty.pair (Ty.int IntKind.u64) (Ty.pair Ty.str Ty.unit)))) x0 x2).2.2.2.1 (elem (Ty.pair (Ty.int IntKind.i64) (Ty.pair (Ty.int IntKind.i64) (Ty.pair (Ty.int IntKind.u64) (Ty.pair Ty.str Ty.unit)))) x1 x2).1 (elem (Ty.pair (Ty.int IntKind.i64) (Ty.pair (Ty.int IntKind.i64) (Ty.pair (Ty.int IntKind.u64) (Ty.pair Ty.str Ty.unit)))) x1 x2).2.1 (elem (Ty.pair (Ty.int IntKind.i64) (Ty.pair (Ty.int IntKind.i64) (Ty.pair (Ty.int IntKind.u64) (Ty.pair Ty.str Ty.unit)))) x1 x2).2.2.1 (elem (Ty.pair (Ty.int IntKind.i64) (Ty.pair (Ty.int IntKind.i64) (Ty.pair (Ty.int IntKind.u64) (Ty.pair Ty.str Ty.unit)))) x1 x2).2.2.2.1).bind fun r0 => (ret (r0))) else none) else none) else (bif (decide (x2 < ((List.length x1) : Int))) then (ret ((-1 : Int))) else (bif (decide (x2 < ((List.length x0) : Int))) then (ret ((1 : Int))) else (ret ((0 : Int))))))
theorem rows_Cmp.c_bind {β : Type} (g32_0 : (List (Int × (Int × (Int × (ByteArray × Unit))))) → (List (Int × (Int × (Int × (ByteArray × Unit))))) → Option Int) (g32_1 : (List (Int × (Int × (Int × (ByteArray × Unit))))) → (List (Int × (Int × (Int × (ByteArray × Unit))))) → Option Int) (g34 : Int → Int → Int → ByteArray → Int → Int → Int → ByteArray → Option Bool) (g35 : Int → Int → Int → ByteArray → Int → Int → Int → ByteArray → Option Int) (s0 : (List (Int × (Int × (Int × (ByteArray × Unit))))) → (List (Int × (Int × (Int × (ByteArray × Unit))))) → Int → Bool → Option Int) (a0 : List (Int × (Int × (Int × (ByteArray × Unit))))) (a1 : List (Int × (Int × (Int × (ByteArray × Unit))))) (ret : Int → Option β) : rows_Cmp.c g32_0 g32_1 g34 g35 s0 a0 a1 ret = (rows_Cmp.c g32_0 g32_1 g34 g35 s0 a0 a1 some).bind ret := by
  simp only [rows_Cmp.c, bif_bind, sum_bind, Option.bind_assoc, Option.bind_some, Option.bind_none, Option.bind_fun_some]
theorem rows_Cmp.s0c_bind {β : Type} (g32_0 : (List (Int × (Int × (Int × (ByteArray × Unit))))) → (List (Int × (Int × (Int × (ByteArray × Unit))))) → Option Int) (g32_1 : (List (Int × (Int × (Int × (ByteArray × Unit))))) → (List (Int × (Int × (Int × (ByteArray × Unit))))) → Option Int) (g34 : Int → Int → Int → ByteArray → Int → Int → Int → ByteArray → Option Bool) (g35 : Int → Int → Int → ByteArray → Int → Int → Int → ByteArray → Option Int) (s0 : (List (Int × (Int × (Int × (ByteArray × Unit))))) → (List (Int × (Int × (Int × (ByteArray × Unit))))) → Int → Bool → Option Int) (x0 : List (Int × (Int × (Int × (ByteArray × Unit))))) (x1 : List (Int × (Int × (Int × (ByteArray × Unit))))) (x2 : Int) (x3 : Bool) (ret : Int → Option β) : rows_Cmp.s0c g32_0 g32_1 g34 g35 s0 x0 x1 x2 x3 ret = (rows_Cmp.s0c g32_0 g32_1 g34 g35 s0 x0 x1 x2 x3 some).bind ret := by
  simp only [rows_Cmp.s0c, bif_bind, sum_bind, Option.bind_assoc, Option.bind_some, Option.bind_none, Option.bind_fun_some]
theorem rows_Cmp.ev (g32_0 : (List (Int × (Int × (Int × (ByteArray × Unit))))) → (List (Int × (Int × (Int × (ByteArray × Unit))))) → Option Int) (g32_1 : (List (Int × (Int × (Int × (ByteArray × Unit))))) → (List (Int × (Int × (Int × (ByteArray × Unit))))) → Option Int) (g34 : Int → Int → Int → ByteArray → Int → Int → Int → ByteArray → Option Bool) (g35 : Int → Int → Int → ByteArray → Int → Int → Int → ByteArray → Option Int) (s0 : (List (Int × (Int × (Int × (ByteArray × Unit))))) → (List (Int × (Int × (Int × (ByteArray × Unit))))) → Int → Bool → Option Int) (a0 : List (Int × (Int × (Int × (ByteArray × Unit))))) (a1 : List (Int × (Int × (Int × (ByteArray × Unit))))) : evAt (env_rows_Cmp g32_0 g32_1 g34 g35 s0) [] [0, 1] [.v (.one (.d (.sl (.pair (.int .i64) (.pair (.int .i64) (.pair (.int .u64) (.pair .str .unit))))) a0)), .v (.one (.d (.sl (.pair (.int .i64) (.pair (.int .i64) (.pair (.int .u64) (.pair .str .unit))))) a1))] [] some = rows_Cmp.c g32_0 g32_1 g34 g35 s0 a0 a1 (fun r => some ⟨.v (.one (.d (.int .i64) r)), []⟩) := by
  kernel_rfl
theorem rows_Cmp.s0_ev (g32_0 : (List (Int × (Int × (Int × (ByteArray × Unit))))) → (List (Int × (Int × (Int × (ByteArray × Unit))))) → Option Int) (g32_1 : (List (Int × (Int × (Int × (ByteArray × Unit))))) → (List (Int × (Int × (Int × (ByteArray × Unit))))) → Option Int) (g34 : Int → Int → Int → ByteArray → Int → Int → Int → ByteArray → Option Bool) (g35 : Int → Int → Int → ByteArray → Int → Int → Int → ByteArray → Option Int) (s0 : (List (Int × (Int × (Int × (ByteArray × Unit))))) → (List (Int × (Int × (Int × (ByteArray × Unit))))) → Int → Bool → Option Int) (x0 : List (Int × (Int × (Int × (ByteArray × Unit))))) (x1 : List (Int × (Int × (Int × (ByteArray × Unit))))) (x2 : Int) (x3 : Bool) : evAt (env_rows_Cmp g32_0 g32_1 g34 g35 s0) [1, 4, 0, 1, 1] [0, 1, 5, 9] [.v (.one (.d (.sl (.pair (.int .i64) (.pair (.int .i64) (.pair (.int .u64) (.pair .str .unit))))) x0)), .v (.one (.d (.sl (.pair (.int .i64) (.pair (.int .i64) (.pair (.int .u64) (.pair .str .unit))))) x1)), .v (.one (.d (.int .i64) x2)), .v (.one (.d .bool x3))] [] some = rows_Cmp.s0c g32_0 g32_1 g34 g35 s0 x0 x1 x2 x3 (fun r => some ⟨.v (.one (.d (.int .i64) r)), []⟩) := by
  kernel_rfl
def rows_Cmp.s0 : Nat → (List (Int × (Int × (Int × (ByteArray × Unit))))) → (List (Int × (Int × (Int × (ByteArray × Unit))))) → Int → Bool → Option Int
  | 0, _, _, _, _ => none
  | k + 1, x0, x1, x2, x3 => rows_Cmp.s0c (api_Value.f0 k) (api_Value.f1 k) (rows_Cmp_1.f k) (values_Cmp.f k) (rows_Cmp.s0 k) x0 x1 x2 x3 some
def rows_Cmp.f (k : Nat) (a0 : List (Int × (Int × (Int × (ByteArray × Unit))))) (a1 : List (Int × (Int × (Int × (ByteArray × Unit))))) : Option Int := rows_Cmp.c (api_Value.f0 k) (api_Value.f1 k) (rows_Cmp_1.f k) (values_Cmp.f k) (rows_Cmp.s0 k) a0 a1 some
theorem rows_Cmp.is (g32_0 : (List (Int × (Int × (Int × (ByteArray × Unit))))) → (List (Int × (Int × (Int × (ByteArray × Unit))))) → Option Int) (g32_1 : (List (Int × (Int × (Int × (ByteArray × Unit))))) → (List (Int × (Int × (Int × (ByteArray × Unit))))) → Option Int) (g34 : Int → Int → Int → ByteArray → Int → Int → Int → ByteArray → Option Bool) (g35 : Int → Int → Int → ByteArray → Int → Int → Int → ByteArray → Option Int) (s0 : (List (Int × (Int × (Int × (ByteArray × Unit))))) → (List (Int × (Int × (Int × (ByteArray × Unit))))) → Int → Bool → Option Int) : FnIs (env_rows_Cmp g32_0 g32_1 g34 g35 s0) 18 Go.Proofs.Try.f18 := ⟨Go.Proofs.Try.func18, rfl, rfl, rfl, by decide⟩
theorem rows_Cmp.envok (g32_0 : (List (Int × (Int × (Int × (ByteArray × Unit))))) → (List (Int × (Int × (Int × (ByteArray × Unit))))) → Option Int) (g32_1 : (List (Int × (Int × (Int × (ByteArray × Unit))))) → (List (Int × (Int × (Int × (ByteArray × Unit))))) → Option Int) (g34 : Int → Int → Int → ByteArray → Int → Int → Int → ByteArray → Option Bool) (g35 : Int → Int → Int → ByteArray → Int → Int → Int → ByteArray → Option Int) (s0 : (List (Int × (Int × (Int × (ByteArray × Unit))))) → (List (Int × (Int × (Int × (ByteArray × Unit))))) → Int → Bool → Option Int) (h32 : CtOK Go.Proofs.Try.prog 32 (ct_api_Value g32_0 g32_1)) (h34 : CtOK Go.Proofs.Try.prog 34 (ct_rows_Cmp_1 g34)) (h35 : CtOK Go.Proofs.Try.prog 35 (ct_values_Cmp g35)) : EnvOK (env_rows_Cmp g32_0 g32_1 g34 g35 s0).toEnv := by
  intro f c h
  simp only [env_rows_Cmp] at h
  split at h
  · rename_i e; subst e; cases h; exact h32
  split at h
  · rename_i e; subst e; cases h; exact h34
  split at h
  · rename_i e; subst e; cases h; exact h35
  simp at h
theorem rows_Cmp.segs_ok : ∀ k, ∀ s ∈ (env_rows_Cmp (api_Value.f0 k) (api_Value.f1 k) (rows_Cmp_1.f k) (values_Cmp.f k) (rows_Cmp.s0 k)).segs, SegOK (env_rows_Cmp (api_Value.f0 k) (api_Value.f1 k) (rows_Cmp_1.f k) (values_Cmp.f k) (rows_Cmp.s0 k)) Go.Proofs.Try.f18 s
  | 0 => by
    intro s hs
    simp only [env_rows_Cmp, List.mem_cons, List.not_mem_nil, or_false] at hs
    rcases hs with rfl
    · intro tvs blks res h; exfalso; simp only [seg_rows_Cmp_0] at h; split at h <;> simp [rows_Cmp.s0] at h
  | k + 1 => by
    have ih := rows_Cmp.segs_ok k
    intro s hs
    simp only [env_rows_Cmp, List.mem_cons, List.not_mem_nil, or_false] at hs
    rcases hs with rfl
    · refine seg_of_ev (E := env_rows_Cmp (api_Value.f0 k) (api_Value.f1 k) (rows_Cmp_1.f k) (values_Cmp.f k) (rows_Cmp.s0 k)) (rows_Cmp.envok _ _ _ _ _  (api_Value.ok k) (rows_Cmp_1.ok k) (values_Cmp.ok k)) ⟨(rows_Cmp.is (api_Value.f0 k) (api_Value.f1 k) (rows_Cmp_1.f k) (values_Cmp.f k) (rows_Cmp.s0 k)).rvs⟩ ih ?_
      intro tvs blks res h
      simp only [seg_rows_Cmp_0] at h
      split at h
      · refine (rows_Cmp.s0_ev (api_Value.f0 k) (api_Value.f1 k) (rows_Cmp_1.f k) (values_Cmp.f k) (rows_Cmp.s0 k) _ _ _ _ ).trans ?_
        rw [rows_Cmp.s0c_bind]
        exact h
      · simp at h
theorem rows_Cmp.ok (k : Nat) : CtOK Go.Proofs.Try.prog 18 (ct_rows_Cmp (rows_Cmp.f k)) := by
  refine ct_of_ev (E := env_rows_Cmp (api_Value.f0 k) (api_Value.f1 k) (rows_Cmp_1.f k) (values_Cmp.f k) (rows_Cmp.s0 k)) (rows_Cmp.is _ _ _ _ _ ) (rows_Cmp.envok _ _ _ _ _  (api_Value.ok k) (rows_Cmp_1.ok k) (values_Cmp.ok k)) (rows_Cmp.segs_ok k) rfl ?_
  intro tvs blks res h
  simp only [ct_rows_Cmp] at h
  split at h
  · refine (rows_Cmp.ev (api_Value.f0 k) (api_Value.f1 k) (rows_Cmp_1.f k) (values_Cmp.f k) (rows_Cmp.s0 k) _ _ ).trans ?_
    rw [rows_Cmp.c_bind]
    exact h
  · simp at h

/-! ### transomlaw06_awake: function 9 -/
def ct_transomlaw06_awake (g : Option Bool) : Ct where
  nin := 0
  mv := []
  F := fun tvs blks {β} K => match tvs, blks with
    | [], [] => (g ).bind fun r => K ⟨.v (.one (.d .bool r)), []⟩
    | _, _ => none
  legit := fun tvs blks K r h => by
    split at h
    · obtain ⟨x, hx, hk⟩ := Option.bind_eq_some_iff.1 h
      refine ⟨_, ?_, hk⟩
      simp only [hx, Option.bind_some]
    · simp at h
noncomputable def env_transomlaw06_awake (g10 : (List (Int × (Int × (Int × (ByteArray × Unit))))) → Option (ByteArray × Int)) (g12 : ByteArray → Option ((List (Int × (Int × (Int × (ByteArray × Unit))))) × Int)) (g15 : (List (Int × (Int × (Int × (ByteArray × Unit))))) → (List Int) → Option ((List (Int × (Int × (Int × (ByteArray × Unit))))) × Int)) (g18 : (List (Int × (Int × (Int × (ByteArray × Unit))))) → (List (Int × (Int × (Int × (ByteArray × Unit))))) → Option Int)  : FEnv := { P := Go.Proofs.Try.prog, ct := fun m => if m = 10 then some (ct_rows_Put g10) else if m = 12 then some (ct_rows_Read g12) else if m = 15 then some (ct_rows_Pick g15) else if m = 18 then some (ct_rows_Cmp g18) else none, N := 101, body := Go.Proofs.Try.f9.body.getD .skip, rvs := [.tmp 0], rts := [4], nin := 0, rmv := [], segs := [] }
def transomlaw06_awake.c {β : Type} (g10 : (List (Int × (Int × (Int × (ByteArray × Unit))))) → Option (ByteArray × Int)) (g12 : ByteArray → Option ((List (Int × (Int × (Int × (ByteArray × Unit))))) × Int)) (g15 : (List (Int × (Int × (Int × (ByteArray × Unit))))) → (List Int) → Option ((List (Int × (Int × (Int × (ByteArray × Unit))))) × Int)) (g18 : (List (Int × (Int × (Int × (ByteArray × Unit))))) → (List (Int × (Int × (Int × (ByteArray × Unit))))) → Option Int)   (ret : Bool → Option β) : Option β := ((g10 [((0 : Int), ((0 : Int), ((0 : Int), ((ByteArray.mk (List.toArray [])), ())))), ((2 : Int), ((1 : Int), ((0 : Int), ((ByteArray.mk (List.toArray [])), ()))))]).bind fun r0 => ((g12 (ByteArray.mk (List.toArray [(2 : UInt8), (0 : UInt8), (2 : UInt8), (2 : UInt8)]))).bind fun r1 => ((g12 (ByteArray.mk (List.toArray [(1 : UInt8), (1 : UInt8), (2 : UInt8)]))).bind fun r2 => ((g12 (ByteArray.mk (List.toArray [(1 : UInt8), (0 : UInt8), (122 : UInt8)]))).bind fun r3 => ((g15 r1.1 [(1 : Int), (1 : Int), (0 : Int)]).bind fun r4 => ((g15 r1.1 [(2 : Int)]).bind fun r5 => (bif ((ByteArray.toList r0.1) == (ByteArray.toList (ByteArray.mk (List.toArray [(2 : UInt8), (0 : UInt8), (2 : UInt8), (2 : UInt8)])))) then (bif (r0.2 == (0 : Int)) then (bif (((List.length r1.1) : Int) == (2 : Int)) then (bif (true && (decide ((1 : Int) < ((List.length r1.1) : Int)))) then (bif ((elem (Ty.pair (Ty.int IntKind.i64) (Ty.pair (Ty.int IntKind.i64) (Ty.pair (Ty.int IntKind.u64) (Ty.pair Ty.str Ty.unit)))) r1.1 (1 : Int)).2.1 == (1 : Int)) then (bif (r1.2 == (0 : Int)) then (bif (r2.2 == (6 : Int)) then (bif (r3.2 == (4 : Int)) then (bif (((List.length r4.1) : Int) == (3 : Int)) then (bif (true && (decide ((0 : Int) < ((List.length r4.1) : Int)))) then (bif ((elem (Ty.pair (Ty.int IntKind.i64) (Ty.pair (Ty.int IntKind.i64) (Ty.pair (Ty.int IntKind.u64) (Ty.pair Ty.str Ty.unit)))) r4.1 (0 : Int)).2.1 == (1 : Int)) then (bif (r4.2 == (0 : Int)) then (bif (r5.2 == (1 : Int)) then (bif (true && (decide ((1 : Int) ≤ ((List.length r1.1) : Int)))) then ((g18 r1.1 (List.take (1 : Nat) (List.drop (0 : Nat) r1.1))).bind fun r6 => (ret ((r6 == (1 : Int))))) else none) else (ret (false))) else (ret (false))) else (ret (false))) else none) else (ret (false))) else (ret (false))) else (ret (false))) else (ret (false))) else (ret (false))) else none) else (ret (false))) else (ret (false))) else (ret (false)))))))))
theorem transomlaw06_awake.c_bind {β : Type} (g10 : (List (Int × (Int × (Int × (ByteArray × Unit))))) → Option (ByteArray × Int)) (g12 : ByteArray → Option ((List (Int × (Int × (Int × (ByteArray × Unit))))) × Int)) (g15 : (List (Int × (Int × (Int × (ByteArray × Unit))))) → (List Int) → Option ((List (Int × (Int × (Int × (ByteArray × Unit))))) × Int)) (g18 : (List (Int × (Int × (Int × (ByteArray × Unit))))) → (List (Int × (Int × (Int × (ByteArray × Unit))))) → Option Int)   (ret : Bool → Option β) : transomlaw06_awake.c g10 g12 g15 g18   ret = (transomlaw06_awake.c g10 g12 g15 g18   some).bind ret := by
  simp only [transomlaw06_awake.c, bif_bind, sum_bind, Option.bind_assoc, Option.bind_some, Option.bind_none, Option.bind_fun_some]
theorem transomlaw06_awake.ev (g10 : (List (Int × (Int × (Int × (ByteArray × Unit))))) → Option (ByteArray × Int)) (g12 : ByteArray → Option ((List (Int × (Int × (Int × (ByteArray × Unit))))) × Int)) (g15 : (List (Int × (Int × (Int × (ByteArray × Unit))))) → (List Int) → Option ((List (Int × (Int × (Int × (ByteArray × Unit))))) × Int)) (g18 : (List (Int × (Int × (Int × (ByteArray × Unit))))) → (List (Int × (Int × (Int × (ByteArray × Unit))))) → Option Int)   : evAt (env_transomlaw06_awake g10 g12 g15 g18 ) [] [] [] [] some = transomlaw06_awake.c g10 g12 g15 g18   (fun r => some ⟨.v (.one (.d .bool r)), []⟩) := by
  kernel_rfl
def transomlaw06_awake.f (k : Nat)  : Option Bool := transomlaw06_awake.c (rows_Put.f k) (rows_Read.f k) (rows_Pick.f k) (rows_Cmp.f k)   some
theorem transomlaw06_awake.is (g10 : (List (Int × (Int × (Int × (ByteArray × Unit))))) → Option (ByteArray × Int)) (g12 : ByteArray → Option ((List (Int × (Int × (Int × (ByteArray × Unit))))) × Int)) (g15 : (List (Int × (Int × (Int × (ByteArray × Unit))))) → (List Int) → Option ((List (Int × (Int × (Int × (ByteArray × Unit))))) × Int)) (g18 : (List (Int × (Int × (Int × (ByteArray × Unit))))) → (List (Int × (Int × (Int × (ByteArray × Unit))))) → Option Int)  : FnIs (env_transomlaw06_awake g10 g12 g15 g18 ) 9 Go.Proofs.Try.f9 := ⟨Go.Proofs.Try.func9, rfl, rfl, rfl, by decide⟩
theorem transomlaw06_awake.envok (g10 : (List (Int × (Int × (Int × (ByteArray × Unit))))) → Option (ByteArray × Int)) (g12 : ByteArray → Option ((List (Int × (Int × (Int × (ByteArray × Unit))))) × Int)) (g15 : (List (Int × (Int × (Int × (ByteArray × Unit))))) → (List Int) → Option ((List (Int × (Int × (Int × (ByteArray × Unit))))) × Int)) (g18 : (List (Int × (Int × (Int × (ByteArray × Unit))))) → (List (Int × (Int × (Int × (ByteArray × Unit))))) → Option Int)  (h10 : CtOK Go.Proofs.Try.prog 10 (ct_rows_Put g10)) (h12 : CtOK Go.Proofs.Try.prog 12 (ct_rows_Read g12)) (h15 : CtOK Go.Proofs.Try.prog 15 (ct_rows_Pick g15)) (h18 : CtOK Go.Proofs.Try.prog 18 (ct_rows_Cmp g18)) : EnvOK (env_transomlaw06_awake g10 g12 g15 g18 ).toEnv := by
  intro f c h
  simp only [env_transomlaw06_awake] at h
  split at h
  · rename_i e; subst e; cases h; exact h10
  split at h
  · rename_i e; subst e; cases h; exact h12
  split at h
  · rename_i e; subst e; cases h; exact h15
  split at h
  · rename_i e; subst e; cases h; exact h18
  simp at h
theorem transomlaw06_awake.ok (k : Nat) : CtOK Go.Proofs.Try.prog 9 (ct_transomlaw06_awake (transomlaw06_awake.f k)) := by
  refine ct_of_ev (E := env_transomlaw06_awake (rows_Put.f k) (rows_Read.f k) (rows_Pick.f k) (rows_Cmp.f k) ) (transomlaw06_awake.is _ _ _ _ ) (transomlaw06_awake.envok _ _ _ _  (rows_Put.ok k) (rows_Read.ok k) (rows_Pick.ok k) (rows_Cmp.ok k)) (fun s hs => by simp [env_transomlaw06_awake] at hs) rfl ?_
  intro tvs blks res h
  simp only [ct_transomlaw06_awake] at h
  split at h
  · refine (transomlaw06_awake.ev (rows_Put.f k) (rows_Read.f k) (rows_Pick.f k) (rows_Cmp.f k)  ).trans ?_
    rw [transomlaw06_awake.c_bind]
    exact h
  · simp at h

/-! ### transomref03_Uint: function 24 -/
def ct_transomref03_Uint (g : Int → Option ByteArray) : Ct where
  nin := 0
  mv := []
  F := fun tvs blks {β} K => match tvs, blks with
    | [.v (.one (.d (.int .u64) a0))], [] => (g a0).bind fun r => K ⟨.v (.one (.d .str r)), []⟩
    | _, _ => none
  legit := fun tvs blks K r h => by
    split at h
    · obtain ⟨x, hx, hk⟩ := Option.bind_eq_some_iff.1 h
      refine ⟨_, ?_, hk⟩
      simp only [hx, Option.bind_some]
    · simp at h
def seg_transomref03_Uint_0 (g : Int → (List Int) → Option ByteArray) : Seg where
  path := [4, 0, 1, 1]
  prep := [.own 3 (.int .u8)]
  keep := [0, 3]
  F := fun tvs blks {β} K => match tvs, blks with
    | [.v (.one (.d (.int .u64) x0)), .v (.one (.own 0))], [some (.own (.int .u8) false x1)] => (g x0 x1).bind fun r => K ⟨.v (.one (.d .str r)), []⟩
    | _, _ => none
  legit := fun tvs blks K r h => by
    split at h
    · obtain ⟨x, hx, hk⟩ := Option.bind_eq_some_iff.1 h
      refine ⟨_, ?_, hk⟩
      simp only [hx, Option.bind_some]
    · simp at h
noncomputable def env_transomref03_Uint  (s0 : Int → (List Int) → Option ByteArray) : FEnv := { P := Go.Proofs.Try.prog, ct := fun m => none, N := 22, body := Go.Proofs.Try.f24.body.getD .skip, rvs := [.tmp 2], rts := [9], nin := 0, rmv := [], segs := [seg_transomref03_Uint_0 s0] }
def transomref03_Uint.c {β : Type}  (s0 : Int → (List Int) → Option ByteArray) (a0 : Int) (ret : ByteArray → Option β) : Option β := ((s0 a0 []).bind ret)
def transomref03_Uint.s0c {β : Type}  (s0 : Int → (List Int) → Option ByteArray) (x0 : Int) (x1 : List Int) (ret : ByteArray → Option β) : Option β := (bif (decide (x0 ≥ (128 : Int))) then (bif (decide ((((List.length x1) + (1 : Nat)) * (1 : Nat)) ≤ (35184372088832 : Nat))) then ((s0 (IntKind.wrap IntKind.u64 (Int.tdiv x0 (128 : Int))) (x1 ++ [(IntKind.wrap IntKind.u8 (IntKind.wrap IntKind.u64 ((Int.tmod x0 (128 : Int)) + (128 : Int))))])).bind ret) else none) else (bif (decide ((((List.length x1) + (1 : Nat)) * (1 : Nat)) ≤ (35184372088832 : Nat))) then (ret ((ByteArray.mk (List.toArray (List.map (fun n => (UInt8.ofNat (Int.toNat n))) (x1 ++ [(IntKind.wrap IntKind.u8 x0)])))))) else none))
theorem transomref03_Uint.c_bind {β : Type}  (s0 : Int → (List Int) → Option ByteArray) (a0 : Int) (ret : ByteArray → Option β) : transomref03_Uint.c  s0 a0 ret = (transomref03_Uint.c  s0 a0 some).bind ret := by
  simp only [transomref03_Uint.c, bif_bind, sum_bind, Option.bind_assoc, Option.bind_some, Option.bind_none, Option.bind_fun_some]
theorem transomref03_Uint.s0c_bind {β : Type}  (s0 : Int → (List Int) → Option ByteArray) (x0 : Int) (x1 : List Int) (ret : ByteArray → Option β) : transomref03_Uint.s0c  s0 x0 x1 ret = (transomref03_Uint.s0c  s0 x0 x1 some).bind ret := by
  simp only [transomref03_Uint.s0c, bif_bind, sum_bind, Option.bind_assoc, Option.bind_some, Option.bind_none, Option.bind_fun_some]
theorem transomref03_Uint.ev  (s0 : Int → (List Int) → Option ByteArray) (a0 : Int) : evAt (env_transomref03_Uint  s0) [] [0] [.v (.one (.d (.int .u64) a0))] [] some = transomref03_Uint.c  s0 a0 (fun r => some ⟨.v (.one (.d .str r)), []⟩) := by
  kernel_rfl
theorem transomref03_Uint.s0_ev  (s0 : Int → (List Int) → Option ByteArray) (x0 : Int) (x1 : List Int) : evAt (env_transomref03_Uint  s0) [4, 0, 1, 1] [0, 3] [.v (.one (.d (.int .u64) x0)), .v (.one (.own 0))] [some (.own (.int .u8) false x1)] some = transomref03_Uint.s0c  s0 x0 x1 (fun r => some ⟨.v (.one (.d .str r)), []⟩) := by
  kernel_rfl
def transomref03_Uint.s0 : Nat → Int → (List Int) → Option ByteArray
  | 0, _, _ => none
  | k + 1, x0, x1 => transomref03_Uint.s0c  (transomref03_Uint.s0 k) x0 x1 some
def transomref03_Uint.f (k : Nat) (a0 : Int) : Option ByteArray := transomref03_Uint.c  (transomref03_Uint.s0 k) a0 some
theorem transomref03_Uint.is  (s0 : Int → (List Int) → Option ByteArray) : FnIs (env_transomref03_Uint  s0) 24 Go.Proofs.Try.f24 := ⟨Go.Proofs.Try.func24, rfl, rfl, rfl, by decide⟩
theorem transomref03_Uint.envok  (s0 : Int → (List Int) → Option ByteArray)  : EnvOK (env_transomref03_Uint  s0).toEnv := by
  intro f c h
  simp only [env_transomref03_Uint] at h
  simp at h
theorem transomref03_Uint.segs_ok : ∀ k, ∀ s ∈ (env_transomref03_Uint  (transomref03_Uint.s0 k)).segs, SegOK (env_transomref03_Uint  (transomref03_Uint.s0 k)) Go.Proofs.Try.f24 s
  | 0 => by
    intro s hs
    simp only [env_transomref03_Uint, List.mem_cons, List.not_mem_nil, or_false] at hs
    rcases hs with rfl
    · intro tvs blks res h; exfalso; simp only [seg_transomref03_Uint_0] at h; split at h <;> simp [transomref03_Uint.s0] at h
  | k + 1 => by
    have ih := transomref03_Uint.segs_ok k
    intro s hs
    simp only [env_transomref03_Uint, List.mem_cons, List.not_mem_nil, or_false] at hs
    rcases hs with rfl
    · refine seg_of_ev (E := env_transomref03_Uint  (transomref03_Uint.s0 k)) (transomref03_Uint.envok _  ) ⟨(transomref03_Uint.is  (transomref03_Uint.s0 k)).rvs⟩ ih ?_
      intro tvs blks res h
      simp only [seg_transomref03_Uint_0] at h
      split at h
      · refine (transomref03_Uint.s0_ev  (transomref03_Uint.s0 k) _ _ ).trans ?_
        rw [transomref03_Uint.s0c_bind]
        exact h
      · simp at h
theorem transomref03_Uint.ok (k : Nat) : CtOK Go.Proofs.Try.prog 24 (ct_transomref03_Uint (transomref03_Uint.f k)) := by
  refine ct_of_ev (E := env_transomref03_Uint  (transomref03_Uint.s0 k)) (transomref03_Uint.is _ ) (transomref03_Uint.envok _  ) (transomref03_Uint.segs_ok k) rfl ?_
  intro tvs blks res h
  simp only [ct_transomref03_Uint] at h
  split at h
  · refine (transomref03_Uint.ev  (transomref03_Uint.s0 k) _ ).trans ?_
    rw [transomref03_Uint.c_bind]
    exact h
  · simp at h

/-! ### transomref02_exponent: function 70 -/
def ct_transomref02_exponent (g : Int → Option Int) : Ct where
  nin := 0
  mv := []
  F := fun tvs blks {β} K => match tvs, blks with
    | [.v (.one (.d (.int .u64) a0))], [] => (g a0).bind fun r => K ⟨.v (.one (.d (.int .i64) r)), []⟩
    | _, _ => none
  legit := fun tvs blks K r h => by
    split at h
    · obtain ⟨x, hx, hk⟩ := Option.bind_eq_some_iff.1 h
      refine ⟨_, ?_, hk⟩
      simp only [hx, Option.bind_some]
    · simp at h
noncomputable def env_transomref02_exponent   : FEnv := { P := Go.Proofs.Try.prog, ct := fun m => none, N := 7, body := Go.Proofs.Try.f70.body.getD .skip, rvs := [.tmp 2], rts := [3], nin := 0, rmv := [], segs := [] }
def transomref02_exponent.c {β : Type}   (a0 : Int) (ret : Int → Option β) : Option β := (ret ((IntKind.wrap IntKind.i64 (IntKind.wrap IntKind.u64 ((BitVec.toNat ((BitVec.ofInt (64 : Nat) (Int.fdiv a0 (4503599627370496 : Int))) &&& (BitVec.ofInt (64 : Nat) (2047 : Int)))) : Int)))))
theorem transomref02_exponent.c_bind {β : Type}   (a0 : Int) (ret : Int → Option β) : transomref02_exponent.c   a0 ret = (transomref02_exponent.c   a0 some).bind ret := by
  simp only [transomref02_exponent.c, bif_bind, sum_bind, Option.bind_assoc, Option.bind_some, Option.bind_none, Option.bind_fun_some]
theorem transomref02_exponent.ev   (a0 : Int) : evAt (env_transomref02_exponent  ) [] [0] [.v (.one (.d (.int .u64) a0))] [] some = transomref02_exponent.c   a0 (fun r => some ⟨.v (.one (.d (.int .i64) r)), []⟩) := by
  kernel_rfl
def transomref02_exponent.f (k : Nat) (a0 : Int) : Option Int := transomref02_exponent.c   a0 some
theorem transomref02_exponent.is   : FnIs (env_transomref02_exponent  ) 70 Go.Proofs.Try.f70 := ⟨Go.Proofs.Try.func70, rfl, rfl, rfl, by decide⟩
theorem transomref02_exponent.envok    : EnvOK (env_transomref02_exponent  ).toEnv := by
  intro f c h
  simp only [env_transomref02_exponent] at h
  simp at h
theorem transomref02_exponent.ok (k : Nat) : CtOK Go.Proofs.Try.prog 70 (ct_transomref02_exponent (transomref02_exponent.f k)) := by
  refine ct_of_ev (E := env_transomref02_exponent  ) (transomref02_exponent.is ) (transomref02_exponent.envok  ) (fun s hs => by simp [env_transomref02_exponent] at hs) rfl ?_
  intro tvs blks res h
  simp only [ct_transomref02_exponent] at h
  split at h
  · refine (transomref02_exponent.ev   _ ).trans ?_
    rw [transomref02_exponent.c_bind]
    exact h
  · simp at h

/-! ### transomref02_fraction: function 71 -/
def ct_transomref02_fraction (g : Int → Option Int) : Ct where
  nin := 0
  mv := []
  F := fun tvs blks {β} K => match tvs, blks with
    | [.v (.one (.d (.int .u64) a0))], [] => (g a0).bind fun r => K ⟨.v (.one (.d (.int .u64) r)), []⟩
    | _, _ => none
  legit := fun tvs blks K r h => by
    split at h
    · obtain ⟨x, hx, hk⟩ := Option.bind_eq_some_iff.1 h
      refine ⟨_, ?_, hk⟩
      simp only [hx, Option.bind_some]
    · simp at h
noncomputable def env_transomref02_fraction   : FEnv := { P := Go.Proofs.Try.prog, ct := fun m => none, N := 5, body := Go.Proofs.Try.f71.body.getD .skip, rvs := [.tmp 2], rts := [43], nin := 0, rmv := [], segs := [] }
def transomref02_fraction.c {β : Type}   (a0 : Int) (ret : Int → Option β) : Option β := (ret ((IntKind.wrap IntKind.u64 ((BitVec.toNat ((BitVec.ofInt (64 : Nat) a0) &&& (BitVec.ofInt (64 : Nat) (4503599627370495 : Int)))) : Int))))
theorem transomref02_fraction.c_bind {β : Type}   (a0 : Int) (ret : Int → Option β) : transomref02_fraction.c   a0 ret = (transomref02_fraction.c   a0 some).bind ret := by
  simp only [transomref02_fraction.c, bif_bind, sum_bind, Option.bind_assoc, Option.bind_some, Option.bind_none, Option.bind_fun_some]
theorem transomref02_fraction.ev   (a0 : Int) : evAt (env_transomref02_fraction  ) [] [0] [.v (.one (.d (.int .u64) a0))] [] some = transomref02_fraction.c   a0 (fun r => some ⟨.v (.one (.d (.int .u64) r)), []⟩) := by
  kernel_rfl
def transomref02_fraction.f (k : Nat) (a0 : Int) : Option Int := transomref02_fraction.c   a0 some
theorem transomref02_fraction.is   : FnIs (env_transomref02_fraction  ) 71 Go.Proofs.Try.f71 := ⟨Go.Proofs.Try.func71, rfl, rfl, rfl, by decide⟩
theorem transomref02_fraction.envok    : EnvOK (env_transomref02_fraction  ).toEnv := by
  intro f c h
  simp only [env_transomref02_fraction] at h
  simp at h
theorem transomref02_fraction.ok (k : Nat) : CtOK Go.Proofs.Try.prog 71 (ct_transomref02_fraction (transomref02_fraction.f k)) := by
  refine ct_of_ev (E := env_transomref02_fraction  ) (transomref02_fraction.is ) (transomref02_fraction.envok  ) (fun s hs => by simp [env_transomref02_fraction] at hs) rfl ?_
  intro tvs blks res h
  simp only [ct_transomref02_fraction] at h
  split at h
  · refine (transomref02_fraction.ev   _ ).trans ?_
    rw [transomref02_fraction.c_bind]
    exact h
  · simp at h

/-! ### transomref02_Class: function 63 -/
def ct_transomref02_Class (g : Int → Option Int) : Ct where
  nin := 0
  mv := []
  F := fun tvs blks {β} K => match tvs, blks with
    | [.v (.one (.d (.int .u64) a0))], [] => (g a0).bind fun r => K ⟨.v (.one (.d (.int .i64) r)), []⟩
    | _, _ => none
  legit := fun tvs blks K r h => by
    split at h
    · obtain ⟨x, hx, hk⟩ := Option.bind_eq_some_iff.1 h
      refine ⟨_, ?_, hk⟩
      simp only [hx, Option.bind_some]
    · simp at h
def seg_transomref02_Class_0 (g : Int → Bool → Option Int) : Seg where
  path := [1, 4, 0, 1]
  prep := []
  keep := [0, 3]
  F := fun tvs blks {β} K => match tvs, blks with
    | [.v (.one (.d (.int .u64) x0)), .v (.one (.d .bool x1))], [] => (g x0 x1).bind fun r => K ⟨.v (.one (.d (.int .i64) r)), []⟩
    | _, _ => none
  legit := fun tvs blks K r h => by
    split at h
    · obtain ⟨x, hx, hk⟩ := Option.bind_eq_some_iff.1 h
      refine ⟨_, ?_, hk⟩
      simp only [hx, Option.bind_some]
    · simp at h
noncomputable def env_transomref02_Class (g70 : Int → Option Int) (g71 : Int → Option Int) (s0 : Int → Bool → Option Int) : FEnv := { P := Go.Proofs.Try.prog, ct := fun m => if m = 70 then some (ct_transomref02_exponent g70) else if m = 71 then some (ct_transomref02_fraction g71) else none, N := 29, body := Go.Proofs.Try.f63.body.getD .skip, rvs := [.tmp 2], rts := [3], nin := 0, rmv := [], segs := [seg_transomref02_Class_0 s0] }
def transomref02_Class.c {β : Type} (g70 : Int → Option Int) (g71 : Int → Option Int) (s0 : Int → Bool → Option Int) (a0 : Int) (ret : Int → Option β) : Option β := ((g70 a0).bind fun r0 => (bif (r0 == (2047 : Int)) then ((g71 a0).bind fun r1 => ((s0 a0 (r1 != (0 : Int))).bind ret)) else ((s0 a0 false).bind ret)))
def transomref02_Class.s0c {β : Type} (g70 : Int → Option Int) (g71 : Int → Option Int) (s0 : Int → Bool → Option Int) (x0 : Int) (x1 : Bool) (ret : Int → Option β) : Option β := (bif x1 then (ret ((1 : Int))) else ((g70 x0).bind fun r0 => (bif (r0 == (2047 : Int)) then (ret ((2 : Int))) else ((g70 x0).bind fun r1 => (bif (r1 == (0 : Int)) then ((g71 x0).bind fun r2 => (bif (r2 == (0 : Int)) then (ret ((3 : Int))) else ((g70 x0).bind fun r3 => (bif (r3 == (0 : Int)) then (ret ((4 : Int))) else (ret ((5 : Int))))))) else ((g70 x0).bind fun r4 => (bif (r4 == (0 : Int)) then (ret ((4 : Int))) else (ret ((5 : Int))))))))))
theorem transomref02_Class.c_bind {β : Type} (g70 : Int → Option Int) (g71 : Int → Option Int) (s0 : Int → Bool → Option Int) (a0 : Int) (ret : Int → Option β) : transomref02_Class.c g70 g71 s0 a0 ret = (transomref02_Class.c g70 g71 s0 a0 some).bind ret := by
  simp only [transomref02_Class.c, bif_bind, sum_bind, Option.bind_assoc, Option.bind_some, Option.bind_none, Option.bind_fun_some]
theorem transomref02_Class.s0c_bind {β : Type} (g70 : Int → Option Int) (g71 : Int → Option Int) (s0 : Int → Bool → Option Int) (x0 : Int) (x1 : Bool) (ret : Int → Option β) : transomref02_Class.s0c g70 g71 s0 x0 x1 ret = (transomref02_Class.s0c g70 g71 s0 x0 x1 some).bind ret := by
  simp only [transomref02_Class.s0c, bif_bind, sum_bind, Option.bind_assoc, Option.bind_some, Option.bind_none, Option.bind_fun_some]
theorem transomref02_Class.ev (g70 : Int → Option Int) (g71 : Int → Option Int) (s0 : Int → Bool → Option Int) (a0 : Int) : evAt (env_transomref02_Class g70 g71 s0) [] [0] [.v (.one (.d (.int .u64) a0))] [] some = transomref02_Class.c g70 g71 s0 a0 (fun r => some ⟨.v (.one (.d (.int .i64) r)), []⟩) := by
  kernel_rfl
theorem transomref02_Class.s0_ev (g70 : Int → Option Int) (g71 : Int → Option Int) (s0 : Int → Bool → Option Int) (x0 : Int) (x1 : Bool) : evAt (env_transomref02_Class g70 g71 s0) [1, 4, 0, 1] [0, 3] [.v (.one (.d (.int .u64) x0)), .v (.one (.d .bool x1))] [] some = transomref02_Class.s0c g70 g71 s0 x0 x1 (fun r => some ⟨.v (.one (.d (.int .i64) r)), []⟩) := by
  kernel_rfl
def transomref02_Class.s0 : Nat → Int → Bool → Option Int
  | 0, _, _ => none
  | k + 1, x0, x1 => transomref02_Class.s0c (transomref02_exponent.f k) (transomref02_fraction.f k) (transomref02_Class.s0 k) x0 x1 some
def transomref02_Class.f (k : Nat) (a0 : Int) : Option Int := transomref02_Class.c (transomref02_exponent.f k) (transomref02_fraction.f k) (transomref02_Class.s0 k) a0 some
theorem transomref02_Class.is (g70 : Int → Option Int) (g71 : Int → Option Int) (s0 : Int → Bool → Option Int) : FnIs (env_transomref02_Class g70 g71 s0) 63 Go.Proofs.Try.f63 := ⟨Go.Proofs.Try.func63, rfl, rfl, rfl, by decide⟩
theorem transomref02_Class.envok (g70 : Int → Option Int) (g71 : Int → Option Int) (s0 : Int → Bool → Option Int) (h70 : CtOK Go.Proofs.Try.prog 70 (ct_transomref02_exponent g70)) (h71 : CtOK Go.Proofs.Try.prog 71 (ct_transomref02_fraction g71)) : EnvOK (env_transomref02_Class g70 g71 s0).toEnv := by
  intro f c h
  simp only [env_transomref02_Class] at h
  split at h
  · rename_i e; subst e; cases h; exact h70
  split at h
  · rename_i e; subst e; cases h; exact h71
  simp at h
theorem transomref02_Class.segs_ok : ∀ k, ∀ s ∈ (env_transomref02_Class (transomref02_exponent.f k) (transomref02_fraction.f k) (transomref02_Class.s0 k)).segs, SegOK (env_transomref02_Class (transomref02_exponent.f k) (transomref02_fraction.f k) (transomref02_Class.s0 k)) Go.Proofs.Try.f63 s
  | 0 => by
    intro s hs
    simp only [env_transomref02_Class, List.mem_cons, List.not_mem_nil, or_false] at hs
    rcases hs with rfl
    · intro tvs blks res h; exfalso; simp only [seg_transomref02_Class_0] at h; split at h <;> simp [transomref02_Class.s0] at h
  | k + 1 => by
    have ih := transomref02_Class.segs_ok k
    intro s hs
    simp only [env_transomref02_Class, List.mem_cons, List.not_mem_nil, or_false] at hs
    rcases hs with rfl
    · refine seg_of_ev (E := env_transomref02_Class (transomref02_exponent.f k) (transomref02_fraction.f k) (transomref02_Class.s0 k)) (transomref02_Class.envok _ _ _  (transomref02_exponent.ok k) (transomref02_fraction.ok k)) ⟨(transomref02_Class.is (transomref02_exponent.f k) (transomref02_fraction.f k) (transomref02_Class.s0 k)).rvs⟩ ih ?_
      intro tvs blks res h
      simp only [seg_transomref02_Class_0] at h
      split at h
      · refine (transomref02_Class.s0_ev (transomref02_exponent.f k) (transomref02_fraction.f k) (transomref02_Class.s0 k) _ _ ).trans ?_
        rw [transomref02_Class.s0c_bind]
        exact h
      · simp at h
theorem transomref02_Class.ok (k : Nat) : CtOK Go.Proofs.Try.prog 63 (ct_transomref02_Class (transomref02_Class.f k)) := by
  refine ct_of_ev (E := env_transomref02_Class (transomref02_exponent.f k) (transomref02_fraction.f k) (transomref02_Class.s0 k)) (transomref02_Class.is _ _ _ ) (transomref02_Class.envok _ _ _  (transomref02_exponent.ok k) (transomref02_fraction.ok k)) (transomref02_Class.segs_ok k) rfl ?_
  intro tvs blks res h
  simp only [ct_transomref02_Class] at h
  split at h
  · refine (transomref02_Class.ev (transomref02_exponent.f k) (transomref02_fraction.f k) (transomref02_Class.s0 k) _ ).trans ?_
    rw [transomref02_Class.c_bind]
    exact h
  · simp at h

/-! ### transomref02_Canon: function 42 -/
def ct_transomref02_Canon (g : Int → Option Int) : Ct where
  nin := 0
  mv := []
  F := fun tvs blks {β} K => match tvs, blks with
    | [.v (.one (.d (.int .u64) a0))], [] => (g a0).bind fun r => K ⟨.v (.one (.d (.int .u64) r)), []⟩
    | _, _ => none
  legit := fun tvs blks K r h => by
    split at h
    · obtain ⟨x, hx, hk⟩ := Option.bind_eq_some_iff.1 h
      refine ⟨_, ?_, hk⟩
      simp only [hx, Option.bind_some]
    · simp at h
noncomputable def env_transomref02_Canon (g63 : Int → Option Int)  : FEnv := { P := Go.Proofs.Try.prog, ct := fun m => if m = 63 then some (ct_transomref02_Class g63) else none, N := 7, body := Go.Proofs.Try.f42.body.getD .skip, rvs := [.tmp 2], rts := [43], nin := 0, rmv := [], segs := [] }
def transomref02_Canon.c {β : Type} (g63 : Int → Option Int)  (a0 : Int) (ret : Int → Option β) : Option β := ((g63 a0).bind fun r0 => (bif (r0 == (1 : Int)) then (ret ((9221120237041090560 : Int))) else (ret (a0))))
theorem transomref02_Canon.c_bind {β : Type} (g63 : Int → Option Int)  (a0 : Int) (ret : Int → Option β) : transomref02_Canon.c g63  a0 ret = (transomref02_Canon.c g63  a0 some).bind ret := by
  simp only [transomref02_Canon.c, bif_bind, sum_bind, Option.bind_assoc, Option.bind_some, Option.bind_none, Option.bind_fun_some]
theorem transomref02_Canon.ev (g63 : Int → Option Int)  (a0 : Int) : evAt (env_transomref02_Canon g63 ) [] [0] [.v (.one (.d (.int .u64) a0))] [] some = transomref02_Canon.c g63  a0 (fun r => some ⟨.v (.one (.d (.int .u64) r)), []⟩) := by
  kernel_rfl
def transomref02_Canon.f (k : Nat) (a0 : Int) : Option Int := transomref02_Canon.c (transomref02_Class.f k)  a0 some
theorem transomref02_Canon.is (g63 : Int → Option Int)  : FnIs (env_transomref02_Canon g63 ) 42 Go.Proofs.Try.f42 := ⟨Go.Proofs.Try.func42, rfl, rfl, rfl, by decide⟩
theorem transomref02_Canon.envok (g63 : Int → Option Int)  (h63 : CtOK Go.Proofs.Try.prog 63 (ct_transomref02_Class g63)) : EnvOK (env_transomref02_Canon g63 ).toEnv := by
  intro f c h
  simp only [env_transomref02_Canon] at h
  split at h
  · rename_i e; subst e; cases h; exact h63
  simp at h
theorem transomref02_Canon.ok (k : Nat) : CtOK Go.Proofs.Try.prog 42 (ct_transomref02_Canon (transomref02_Canon.f k)) := by
  refine ct_of_ev (E := env_transomref02_Canon (transomref02_Class.f k) ) (transomref02_Canon.is _ ) (transomref02_Canon.envok _  (transomref02_Class.ok k)) (fun s hs => by simp [env_transomref02_Canon] at hs) rfl ?_
  intro tvs blks res h
  simp only [ct_transomref02_Canon] at h
  split at h
  · refine (transomref02_Canon.ev (transomref02_Class.f k)  _ ).trans ?_
    rw [transomref02_Canon.c_bind]
    exact h
  · simp at h
end Go.Proofs.Ytlclhjdfbkenfaa.Aev
