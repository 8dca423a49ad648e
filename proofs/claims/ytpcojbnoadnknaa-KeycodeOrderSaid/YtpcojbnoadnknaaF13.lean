/- By a program of this session (AEV): functions of the program as plain functions, and that the machine does what they say. -/
import Derived.Test.YtpcojbnoadnknaaAevW
import Derived.Test.YtpcojbnoadnknaaProg
import Derived.Laws.Externs
import Derived.Lib.Bytealg
import Derived.Test.YtpcojbnoadnknaaF1
import Derived.Test.YtpcojbnoadnknaaF3
import Derived.Test.YtpcojbnoadnknaaF4
import Derived.Test.YtpcojbnoadnknaaF6
import Derived.Test.YtpcojbnoadnknaaF11
namespace Go.Proofs.Ytpcojbnoadnknaa.Aev
set_option linter.unusedVariables false
set_option linter.unusedSimpArgs false
set_option maxRecDepth 100000
set_option maxHeartbeats 4000000
open Go
/-! ### transomlaw05_Few: function 19 -/
def ct_transomlaw05_Few (g : (List (Int × (Int × (Int × (ByteArray × Unit))))) → Option Int) : Ct where
  nin := 0
  mv := []
  F := fun tvs blks {β} K => match tvs, blks with
    | [.v (.one (.d (.sl (.pair (.int .i64) (.pair (.int .i64) (.pair (.int .u64) (.pair .str .unit))))) a0))], [] => (g a0).bind fun r => K ⟨.v (.one (.d (.int .i64) r)), []⟩
    | _, _ => none
  legit := fun tvs blks K r h => by
    split at h
    · obtain ⟨x, hx, hk⟩ := Option.bind_eq_some_iff.1 h
      refine ⟨_, ?_, hk⟩
      simp only [hx, Option.bind_some]
    · simp at h
def seg_transomlaw05_Few_0 (g : (List (Int × (Int × (Int × (ByteArray × Unit))))) → Int → Option Int) : Seg where
  path := [4, 1, 0, 1, 1]
  prep := []
  keep := [0, 3]
  F := fun tvs blks {β} K => match tvs, blks with
    | [.v (.one (.d (.sl (.pair (.int .i64) (.pair (.int .i64) (.pair (.int .u64) (.pair .str .unit))))) x0)), .v (.one (.d (.int .i64) x1))], [] => (g x0 x1).bind fun r => K ⟨.v (.one (.d (.int .i64) r)), []⟩
    | _, _ => none
  legit := fun tvs blks K r h => by
    split at h
    · obtain ⟨x, hx, hk⟩ := Option.bind_eq_some_iff.1 h
      refine ⟨_, ?_, hk⟩
      simp only [hx, Option.bind_some]
    · simp at h
noncomputable def env_transomlaw05_Few (g17 : Int → Int → Int → ByteArray → Option Int) (s0 : (List (Int × (Int × (Int × (ByteArray × Unit))))) → Int → Option Int) : FEnv := { P := Go.Proofs.Try.prog, ct := fun m => if m = 17 then some (ct_transomlaw04_Few g17) else none, N := 19, body := Go.Proofs.Try.f19.body.getD .skip, rvs := [.tmp 2], rts := [3], nin := 0, rmv := [], segs := [seg_transomlaw05_Few_0 s0] }
def transomlaw05_Few.c {β : Type} (g17 : Int → Int → Int → ByteArray → Option Int) (s0 : (List (Int × (Int × (Int × (ByteArray × Unit))))) → Int → Option Int) (a0 : List (Int × (Int × (Int × (ByteArray × Unit))))) (ret : Int → Option β) : Option β := (bif (decide (((List.length a0) : Int) > (30 : Int))) then (ret ((0 : Int))) else ((s0 a0 (0 : Int)).bind ret))
def transomlaw05_Few.s0c {β : Type} (g17 : Int → Int → Int → ByteArray → Option Int) (s0 : (List (Int × (Int × (Int × (ByteArray × Unit))))) → Int → Option Int) (x0 : List (Int × (Int × (Int × (ByteArray × Unit))))) (x1 : Int) (ret : Int → Option β) : Option β := (bif (decide (x1 < ((List.length x0) : Int))) then (bif ((decide ((0 : Int) ≤ x1)) && (decide (x1 < ((List.length x0) : Int)))) then ((g17 (elem (Ty.pair (Ty.int IntKind.i64) (Ty.pair (Ty.int IntKind.i64) (Ty.pair (Ty.int IntKind.u64) (Ty.pair Ty.str Ty.unit)))) x0 x1).1 (elem (Ty.pair (Ty.int IntKind.i64) (Ty.pair (Ty.int IntKind.i64) (Ty.pair (Ty.int IntKind.u64) (Ty.pair Ty.str Ty.unit)))) x0 x1).2.1 (elem (Ty.pair (Ty.int IntKind.i64) (Ty.pair (Ty.int IntKind.i64) (Ty.pair (Ty.int IntKind.u64) (Ty.pair Ty.str Ty.unit)))) x0 x1).2.2.1 (elem (Ty.pair (Ty.int IntKind.i64) (Ty.pair (Ty.int IntKind.i64) (Ty.pair (Ty.int IntKind.u64) (Ty.pair Ty.str Ty.unit)))) x0 x1).2.2.2.1).bind fun r0 => (bif (r0 == (0 : Int)) then (ret ((0 : Int))) else ((s0 x0 (IntKind.wrap IntKind.i64 (x1 + (1 : Int)))).bind ret))) else none) else (ret ((1 : Int))))
theorem transomlaw05_Few.c_bind {β : Type} (g17 : Int → Int → Int → ByteArray → Option Int) (s0 : (List (Int × (Int × (Int × (ByteArray × Unit))))) → Int → Option Int) (a0 : List (Int × (Int × (Int × (ByteArray × Unit))))) (ret : Int → Option β) : transomlaw05_Few.c g17 s0 a0 ret = (transomlaw05_Few.c g17 s0 a0 some).bind ret := by
  simp only [transomlaw05_Few.c, bif_bind, sum_bind, Option.bind_assoc, Option.bind_some, Option.bind_none, Option.bind_fun_some]
theorem transomlaw05_Few.s0c_bind {β : Type} (g17 : Int → Int → Int → ByteArray → Option Int) (s0 : (List (Int × (Int × (Int × (ByteArray × Unit))))) → Int → Option Int) (x0 : List (Int × (Int × (Int × (ByteArray × Unit))))) (x1 : Int) (ret : Int → Option β) : transomlaw05_Few.s0c g17 s0 x0 x1 ret = (transomlaw05_Few.s0c g17 s0 x0 x1 some).bind ret := by
  simp only [transomlaw05_Few.s0c, bif_bind, sum_bind, Option.bind_assoc, Option.bind_some, Option.bind_none, Option.bind_fun_some]
theorem transomlaw05_Few.ev (g17 : Int → Int → Int → ByteArray → Option Int) (s0 : (List (Int × (Int × (Int × (ByteArray × Unit))))) → Int → Option Int) (a0 : List (Int × (Int × (Int × (ByteArray × Unit))))) : evAt (env_transomlaw05_Few g17 s0) [] [0] [.v (.one (.d (.sl (.pair (.int .i64) (.pair (.int .i64) (.pair (.int .u64) (.pair .str .unit))))) a0))] [] some = transomlaw05_Few.c g17 s0 a0 (fun r => some ⟨.v (.one (.d (.int .i64) r)), []⟩) := by
  kernel_rfl
theorem transomlaw05_Few.s0_ev (g17 : Int → Int → Int → ByteArray → Option Int) (s0 : (List (Int × (Int × (Int × (ByteArray × Unit))))) → Int → Option Int) (x0 : List (Int × (Int × (Int × (ByteArray × Unit))))) (x1 : Int) : evAt (env_transomlaw05_Few g17 s0) [4, 1, 0, 1, 1] [0, 3] [.v (.one (.d (.sl (.pair (.int .i64) (.pair (.int .i64) (.pair (.int .u64) (.pair .str .unit))))) x0)), .v (.one (.d (.int .i64) x1))] [] some = transomlaw05_Few.s0c g17 s0 x0 x1 (fun r => some ⟨.v (.one (.d (.int .i64) r)), []⟩) := by
  kernel_rfl
def transomlaw05_Few.s0 : Nat → (List (Int × (Int × (Int × (ByteArray × Unit))))) → Int → Option Int
  | 0, _, _ => none
  | k + 1, x0, x1 => transomlaw05_Few.s0c (transomlaw04_Few.f k) (transomlaw05_Few.s0 k) x0 x1 some
def transomlaw05_Few.f (k : Nat) (a0 : List (Int × (Int × (Int × (ByteArray × Unit))))) : Option Int := transomlaw05_Few.c (transomlaw04_Few.f k) (transomlaw05_Few.s0 k) a0 some
theorem transomlaw05_Few.is (g17 : Int → Int → Int → ByteArray → Option Int) (s0 : (List (Int × (Int × (Int × (ByteArray × Unit))))) → Int → Option Int) : FnIs (env_transomlaw05_Few g17 s0) 19 Go.Proofs.Try.f19 := ⟨Go.Proofs.Try.func19, rfl, rfl, rfl, by decide⟩
theorem transomlaw05_Few.envok (g17 : Int → Int → Int → ByteArray → Option Int) (s0 : (List (Int × (Int × (Int × (ByteArray × Unit))))) → Int → Option Int) (h17 : CtOK Go.Proofs.Try.prog 17 (ct_transomlaw04_Few g17)) : EnvOK (env_transomlaw05_Few g17 s0).toEnv := by
  intro f c h
  simp only [env_transomlaw05_Few] at h
  split at h
  · rename_i e; subst e; cases h; exact h17
  simp at h
theorem transomlaw05_Few.segs_ok : ∀ k, ∀ s ∈ (env_transomlaw05_Few (transomlaw04_Few.f k) (transomlaw05_Few.s0 k)).segs, SegOK (env_transomlaw05_Few (transomlaw04_Few.f k) (transomlaw05_Few.s0 k)) Go.Proofs.Try.f19 s
  | 0 => by
    intro s hs
    simp only [env_transomlaw05_Few, List.mem_cons, List.not_mem_nil, or_false] at hs
    rcases hs with rfl
    · intro tvs blks res h; exfalso; simp only [seg_transomlaw05_Few_0] at h; split at h <;> simp [transomlaw05_Few.s0] at h
  | k + 1 => by
    have ih := transomlaw05_Few.segs_ok k
    intro s hs
    simp only [env_transomlaw05_Few, List.mem_cons, List.not_mem_nil, or_false] at hs
    rcases hs with rfl
    · refine seg_of_ev (E := env_transomlaw05_Few (transomlaw04_Few.f k) (transomlaw05_Few.s0 k)) (transomlaw05_Few.envok _ _  (transomlaw04_Few.ok k)) ⟨(transomlaw05_Few.is (transomlaw04_Few.f k) (transomlaw05_Few.s0 k)).rvs⟩ ih ?_
      intro tvs blks res h
      simp only [seg_transomlaw05_Few_0] at h
      split at h
      · refine (transomlaw05_Few.s0_ev (transomlaw04_Few.f k) (transomlaw05_Few.s0 k) _ _ ).trans ?_
        rw [transomlaw05_Few.s0c_bind]
        exact h
      · simp at h
theorem transomlaw05_Few.ok (k : Nat) : CtOK Go.Proofs.Try.prog 19 (ct_transomlaw05_Few (transomlaw05_Few.f k)) := by
  refine ct_of_ev (E := env_transomlaw05_Few (transomlaw04_Few.f k) (transomlaw05_Few.s0 k)) (transomlaw05_Few.is _ _ ) (transomlaw05_Few.envok _ _  (transomlaw04_Few.ok k)) (transomlaw05_Few.segs_ok k) rfl ?_
  intro tvs blks res h
  simp only [ct_transomlaw05_Few] at h
  split at h
  · refine (transomlaw05_Few.ev (transomlaw04_Few.f k) (transomlaw05_Few.s0 k) _ ).trans ?_
    rw [transomlaw05_Few.c_bind]
    exact h
  · simp at h

/-! ### keycode_Row: function 20 -/
def ct_keycode_Row (g : (List (Int × (Int × (Int × (ByteArray × Unit))))) → Option (ByteArray × Int)) : Ct where
  nin := 0
  mv := []
  F := fun tvs blks {β} K => match tvs, blks with
    | [.v (.one (.d (.sl (.pair (.int .i64) (.pair (.int .i64) (.pair (.int .u64) (.pair .str .unit))))) a0))], [] => (g a0).bind fun r => K ⟨.tup [(.one (.d .str r.1)), (.one (.d (.int .i64) r.2))], []⟩
    | _, _ => none
  legit := fun tvs blks K r h => by
    split at h
    · obtain ⟨x, hx, hk⟩ := Option.bind_eq_some_iff.1 h
      refine ⟨_, ?_, hk⟩
      simp only [hx, Option.bind_some]
    · simp at h
def seg_keycode_Row_0 (g : (List (Int × (Int × (Int × (ByteArray × Unit))))) → Int → Int → (List Int) → Option (ByteArray × Int)) : Seg where
  path := [4, 1, 0, 1, 1]
  prep := [.own 4 (.int .u8)]
  keep := [4, 8, 9, 10]
  F := fun tvs blks {β} K => match tvs, blks with
    | [.v (.one (.own 0)), .v (.one (.d (.sl (.pair (.int .i64) (.pair (.int .i64) (.pair (.int .u64) (.pair .str .unit))))) x0)), .v (.one (.d (.int .i64) x1)), .v (.one (.d (.int .i64) x2))], [some (.own (.int .u8) false x3)] => (g x0 x1 x2 x3).bind fun r => K ⟨.tup [(.one (.d .str r.1)), (.one (.d (.int .i64) r.2))], []⟩
    | _, _ => none
  legit := fun tvs blks K r h => by
    split at h
    · obtain ⟨x, hx, hk⟩ := Option.bind_eq_some_iff.1 h
      refine ⟨_, ?_, hk⟩
      simp only [hx, Option.bind_some]
    · simp at h
noncomputable def env_keycode_Row (g29 : Int → Int → Int → ByteArray → Option Int) (g35 : Int → Int → Int → ByteArray → (List Int) → Option ((List Int))) (s0 : (List (Int × (Int × (Int × (ByteArray × Unit))))) → Int → Int → (List Int) → Option (ByteArray × Int)) : FEnv := { P := Go.Proofs.Try.prog, ct := fun m => if m = 29 then some (ct_values_Check g29) else if m = 35 then some (ct_keycode_put g35) else none, N := 25, body := Go.Proofs.Try.f20.body.getD .skip, rvs := [.tmp 2, .tmp 3], rts := [9, 26], nin := 0, rmv := [], segs := [seg_keycode_Row_0 s0] }
def keycode_Row.c {β : Type} (g29 : Int → Int → Int → ByteArray → Option Int) (g35 : Int → Int → Int → ByteArray → (List Int) → Option ((List Int))) (s0 : (List (Int × (Int × (Int × (ByteArray × Unit))))) → Int → Int → (List Int) → Option (ByteArray × Int)) (a0 : List (Int × (Int × (Int × (ByteArray × Unit))))) (ret : (ByteArray × Int) → Option β) : Option β := ((s0 a0 ((List.length a0) : Int) (0 : Int) []).bind ret)
def keycode_Row.s0c {β : Type} (g29 : Int → Int → Int → ByteArray → Option Int) (g35 : Int → Int → Int → ByteArray → (List Int) → Option ((List Int))) (s0 : (List (Int × (Int × (Int × (ByteArray × Unit))))) → Int → Int → (List Int) → Option (ByteArray × Int)) (x0 : List (Int × (Int × (Int × (ByteArray × Unit))))) (x1 : Int) (x2 : Int) (x3 : List Int) (ret : (ByteArray × Int) → Option β) : Option β := (bif (decide (x2 < x1)) then (bif ((decide ((0 : Int) ≤ x2)) && (decide (x2 < ((List.length x0) : Int)))) then ((g29 (elem (Ty.pair (Ty.int IntKind.i64) (Ty.pair (Ty.int IntKind.i64) (Ty.pair (Ty.int IntKind.u64) (Ty.pair Ty.str Ty.unit)))) x0 x2).1 (elem (Ty.pair (Ty.int IntKind.i64) (Ty.pair (Ty.int IntKind.i64) (Ty.pair (Ty.int IntKind.u64) (Ty.pair Ty.str Ty.unit)))) x0 x2).2.1 (elem (Ty.pair (Ty.int IntKind.i64) (Ty.pair (Ty.int IntKind.i64) (Ty.pair (Ty.int IntKind.u64) (Ty.pair Ty.str Ty.unit)))) x0 x2).2.2.1 (elem (Ty.pair (Ty.int IntKind.i64) (Ty.pair (Ty.int IntKind.i64) (Ty.pair (Ty.int IntKind.u64) (Ty.pair Ty.str Ty.unit)))) x0 x2).2.2.2.1).bind fun r0 => (bif (r0 != (0 : Int)) then (ret ((ByteArray.mk (List.toArray [])), r0)) else ((g35 (elem (Ty.pair (Ty.int IntKind.i64) (Ty.pair (Ty.int IntKind.i64) (Ty.pair (Ty.int IntKind.u64) (Ty.pair Ty.str Ty.unit)))) x0 x2).1 (elem (Ty.pair (Ty.int IntKind.i64) (Ty.pair (Ty.int IntKind.i64) (Ty.pair (Ty.int IntKind.u64) (Ty.pair Ty.str Ty.unit)))) x0 x2).2.1 (elem (Ty.pair (Ty.int IntKind.i64) (Ty.pair (Ty.int IntKind.i64) (Ty.pair (Ty.int IntKind.u64) (Ty.pair Ty.str Ty.unit)))) x0 x2).2.2.1 (elem (Ty.pair (Ty.int IntKind.i64) (Ty.pair (Ty.int IntKind.i64) (Ty.pair (Ty.int IntKind.u64) (Ty.pair Ty.str Ty.unit)))) x0 x2).2.2.2.1 x3).bind fun r1 => ((s0 x0 x1 (IntKind.wrap IntKind.i64 (x2 + (1 : Int))) r1).bind ret)))) else none) else (ret ((ByteArray.mk (List.toArray (List.map (fun n => (UInt8.ofNat (Int.toNat n))) x3))), (0 : Int))))
theorem keycode_Row.c_bind {β : Type} (g29 : Int → Int → Int → ByteArray → Option Int) (g35 : Int → Int → Int → ByteArray → (List Int) → Option ((List Int))) (s0 : (List (Int × (Int × (Int × (ByteArray × Unit))))) → Int → Int → (List Int) → Option (ByteArray × Int)) (a0 : List (Int × (Int × (Int × (ByteArray × Unit))))) (ret : (ByteArray × Int) → Option β) : keycode_Row.c g29 g35 s0 a0 ret = (keycode_Row.c g29 g35 s0 a0 some).bind ret := by
  simp only [keycode_Row.c, bif_bind, sum_bind, Option.bind_assoc, Option.bind_some, Option.bind_none, Option.bind_fun_some]
theorem keycode_Row.s0c_bind {β : Type} (g29 : Int → Int → Int → ByteArray → Option Int) (g35 : Int → Int → Int → ByteArray → (List Int) → Option ((List Int))) (s0 : (List (Int × (Int × (Int × (ByteArray × Unit))))) → Int → Int → (List Int) → Option (ByteArray × Int)) (x0 : List (Int × (Int × (Int × (ByteArray × Unit))))) (x1 : Int) (x2 : Int) (x3 : List Int) (ret : (ByteArray × Int) → Option β) : keycode_Row.s0c g29 g35 s0 x0 x1 x2 x3 ret = (keycode_Row.s0c g29 g35 s0 x0 x1 x2 x3 some).bind ret := by
  simp only [keycode_Row.s0c, bif_bind, sum_bind, Option.bind_assoc, Option.bind_some, Option.bind_none, Option.bind_fun_some]
theorem keycode_Row.ev (g29 : Int → Int → Int → ByteArray → Option Int) (g35 : Int → Int → Int → ByteArray → (List Int) → Option ((List Int))) (s0 : (List (Int × (Int × (Int × (ByteArray × Unit))))) → Int → Int → (List Int) → Option (ByteArray × Int)) (a0 : List (Int × (Int × (Int × (ByteArray × Unit))))) : evAt (env_keycode_Row g29 g35 s0) [] [0] [.v (.one (.d (.sl (.pair (.int .i64) (.pair (.int .i64) (.pair (.int .u64) (.pair .str .unit))))) a0))] [] some = keycode_Row.c g29 g35 s0 a0 (fun r => some ⟨.tup [(.one (.d .str r.1)), (.one (.d (.int .i64) r.2))], []⟩) := by
  kernel_rfl
theorem keycode_Row.s0_ev (g29 : Int → Int → Int → ByteArray → Option Int) (g35 : Int → Int → Int → ByteArray → (List Int) → Option ((List Int))) (s0 : (List (Int × (Int × (Int × (ByteArray × Unit))))) → Int → Int → (List Int) → Option (ByteArray × Int)) (x0 : List (Int × (Int × (Int × (ByteArray × Unit))))) (x1 : Int) (x2 : Int) (x3 : List Int) : evAt (env_keycode_Row g29 g35 s0) [4, 1, 0, 1, 1] [4, 8, 9, 10] [.v (.one (.own 0)), .v (.one (.d (.sl (.pair (.int .i64) (.pair (.int .i64) (.pair (.int .u64) (.pair .str .unit))))) x0)), .v (.one (.d (.int .i64) x1)), .v (.one (.d (.int .i64) x2))] [some (.own (.int .u8) false x3)] some = keycode_Row.s0c g29 g35 s0 x0 x1 x2 x3 (fun r => some ⟨.tup [(.one (.d .str r.1)), (.one (.d (.int .i64) r.2))], []⟩) := by
  kernel_rfl
def keycode_Row.s0 : Nat → (List (Int × (Int × (Int × (ByteArray × Unit))))) → Int → Int → (List Int) → Option (ByteArray × Int)
  | 0, _, _, _, _ => none
  | k + 1, x0, x1, x2, x3 => keycode_Row.s0c (values_Check.f k) (keycode_put.f k) (keycode_Row.s0 k) x0 x1 x2 x3 some
def keycode_Row.f (k : Nat) (a0 : List (Int × (Int × (Int × (ByteArray × Unit))))) : Option (ByteArray × Int) := keycode_Row.c (values_Check.f k) (keycode_put.f k) (keycode_Row.s0 k) a0 some
theorem keycode_Row.is (g29 : Int → Int → Int → ByteArray → Option Int) (g35 : Int → Int → Int → ByteArray → (List Int) → Option ((List Int))) (s0 : (List (Int × (Int × (Int × (ByteArray × Unit))))) → Int → Int → (List Int) → Option (ByteArray × Int)) : FnIs (env_keycode_Row g29 g35 s0) 20 Go.Proofs.Try.f20 := ⟨Go.Proofs.Try.func20, rfl, rfl, rfl, by decide⟩
theorem keycode_Row.envok (g29 : Int → Int → Int → ByteArray → Option Int) (g35 : Int → Int → Int → ByteArray → (List Int) → Option ((List Int))) (s0 : (List (Int × (Int × (Int × (ByteArray × Unit))))) → Int → Int → (List Int) → Option (ByteArray × Int)) (h29 : CtOK Go.Proofs.Try.prog 29 (ct_values_Check g29)) (h35 : CtOK Go.Proofs.Try.prog 35 (ct_keycode_put g35)) : EnvOK (env_keycode_Row g29 g35 s0).toEnv := by
  intro f c h
  simp only [env_keycode_Row] at h
  split at h
  · rename_i e; subst e; cases h; exact h29
  split at h
  · rename_i e; subst e; cases h; exact h35
  simp at h
theorem keycode_Row.segs_ok : ∀ k, ∀ s ∈ (env_keycode_Row (values_Check.f k) (keycode_put.f k) (keycode_Row.s0 k)).segs, SegOK (env_keycode_Row (values_Check.f k) (keycode_put.f k) (keycode_Row.s0 k)) Go.Proofs.Try.f20 s
  | 0 => by
    intro s hs
    simp only [env_keycode_Row, List.mem_cons, List.not_mem_nil, or_false] at hs
    rcases hs with rfl
    · intro tvs blks res h; exfalso; simp only [seg_keycode_Row_0] at h; split at h <;> simp [keycode_Row.s0] at h
  | k + 1 => by
    have ih := keycode_Row.segs_ok k
    intro s hs
    simp only [env_keycode_Row, List.mem_cons, List.not_mem_nil, or_false] at hs
    rcases hs with rfl
    · refine seg_of_ev (E := env_keycode_Row (values_Check.f k) (keycode_put.f k) (keycode_Row.s0 k)) (keycode_Row.envok _ _ _  (values_Check.ok k) (keycode_put.ok k)) ⟨(keycode_Row.is (values_Check.f k) (keycode_put.f k) (keycode_Row.s0 k)).rvs⟩ ih ?_
      intro tvs blks res h
      simp only [seg_keycode_Row_0] at h
      split at h
      · refine (keycode_Row.s0_ev (values_Check.f k) (keycode_put.f k) (keycode_Row.s0 k) _ _ _ _ ).trans ?_
        rw [keycode_Row.s0c_bind]
        exact h
      · simp at h
theorem keycode_Row.ok (k : Nat) : CtOK Go.Proofs.Try.prog 20 (ct_keycode_Row (keycode_Row.f k)) := by
  refine ct_of_ev (E := env_keycode_Row (values_Check.f k) (keycode_put.f k) (keycode_Row.s0 k)) (keycode_Row.is _ _ _ ) (keycode_Row.envok _ _ _  (values_Check.ok k) (keycode_put.ok k)) (keycode_Row.segs_ok k) rfl ?_
  intro tvs blks res h
  simp only [ct_keycode_Row] at h
  split at h
  · refine (keycode_Row.ev (values_Check.f k) (keycode_put.f k) (keycode_Row.s0 k) _ ).trans ?_
    rw [keycode_Row.c_bind]
    exact h
  · simp at h

/-! ### transomref05_Eight: function 36 -/
def ct_transomref05_Eight (g : Int → Option ByteArray) : Ct where
  nin := 0
  mv := []
  F := fun tvs blks {β} K => match tvs, blks with
    | [.v (.one (.d (.int .u64) a0))], [] => (g a0).bind fun r => K ⟨.v (.one (.d .str r)), []⟩
    | _, _ => none
  legit := fun tvs blks K r h => by
    split at h
    · obtain ⟨x, hx, hk⟩ := Option.bind_eq_some_iff.1 h
      refine ⟨_, ?_, hk⟩
      simp only [hx, Option.bind_some]
    · simp at h
def seg_transomref05_Eight_0 (g : Int → Int → (List Int) → Option ByteArray) : Seg where
  path := [4, 1, 0, 1, 1]
  prep := [.own 3 (.int .u8)]
  keep := [0, 3, 4]
  F := fun tvs blks {β} K => match tvs, blks with
    | [.v (.one (.d (.int .u64) x0)), .v (.one (.own 0)), .v (.one (.d (.int .i64) x1))], [some (.own (.int .u8) false x2)] => (g x0 x1 x2).bind fun r => K ⟨.v (.one (.d .str r)), []⟩
    | _, _ => none
  legit := fun tvs blks K r h => by
    split at h
    · obtain ⟨x, hx, hk⟩ := Option.bind_eq_some_iff.1 h
      refine ⟨_, ?_, hk⟩
      simp only [hx, Option.bind_some]
    · simp at h
noncomputable def env_transomref05_Eight  (s0 : Int → Int → (List Int) → Option ByteArray) : FEnv := { P := Go.Proofs.Try.prog, ct := fun m => none, N := 21, body := Go.Proofs.Try.f36.body.getD .skip, rvs := [.tmp 2], rts := [9], nin := 0, rmv := [], segs := [seg_transomref05_Eight_0 s0] }
def transomref05_Eight.c {β : Type}  (s0 : Int → Int → (List Int) → Option ByteArray) (a0 : Int) (ret : ByteArray → Option β) : Option β := ((s0 a0 (0 : Int) []).bind ret)
def transomref05_Eight.s0c {β : Type}  (s0 : Int → Int → (List Int) → Option ByteArray) (x0 : Int) (x1 : Int) (x2 : List Int) (ret : ByteArray → Option β) : Option β := (bif (decide (x1 < (8 : Int))) then (bif (decide ((0 : Int) ≤ (IntKind.wrap IntKind.u64 (IntKind.wrap IntKind.i64 ((56 : Int) - (IntKind.wrap IntKind.i64 ((8 : Int) * x1))))))) then (bif (decide ((((List.length x2) + (1 : Nat)) * (1 : Nat)) ≤ (35184372088832 : Nat))) then ((s0 x0 (IntKind.wrap IntKind.i64 (x1 + (1 : Int))) (x2 ++ [(IntKind.wrap IntKind.u8 (Int.fdiv x0 ((2 : Int) ^ (Min.min (Int.toNat (IntKind.wrap IntKind.u64 (IntKind.wrap IntKind.i64 ((56 : Int) - (IntKind.wrap IntKind.i64 ((8 : Int) * x1)))))) (64 : Nat)))))])).bind ret) else none) else none) else (ret ((ByteArray.mk (List.toArray (List.map (fun n => (UInt8.ofNat (Int.toNat n))) x2))))))
theorem transomref05_Eight.c_bind {β : Type}  (s0 : Int → Int → (List Int) → Option ByteArray) (a0 : Int) (ret : ByteArray → Option β) : transomref05_Eight.c  s0 a0 ret = (transomref05_Eight.c  s0 a0 some).bind ret := by
  simp only [transomref05_Eight.c, bif_bind, sum_bind, Option.bind_assoc, Option.bind_some, Option.bind_none, Option.bind_fun_some]
theorem transomref05_Eight.s0c_bind {β : Type}  (s0 : Int → Int → (List Int) → Option ByteArray) (x0 : Int) (x1 : Int) (x2 : List Int) (ret : ByteArray → Option β) : transomref05_Eight.s0c  s0 x0 x1 x2 ret = (transomref05_Eight.s0c  s0 x0 x1 x2 some).bind ret := by
  simp only [transomref05_Eight.s0c, bif_bind, sum_bind, Option.bind_assoc, Option.bind_some, Option.bind_none, Option.bind_fun_some]
theorem transomref05_Eight.ev  (s0 : Int → Int → (List Int) → Option ByteArray) (a0 : Int) : evAt (env_transomref05_Eight  s0) [] [0] [.v (.one (.d (.int .u64) a0))] [] some = transomref05_Eight.c  s0 a0 (fun r => some ⟨.v (.one (.d .str r)), []⟩) := by
  kernel_rfl
theorem transomref05_Eight.s0_ev  (s0 : Int → Int → (List Int) → Option ByteArray) (x0 : Int) (x1 : Int) (x2 : List Int) : evAt (env_transomref05_Eight  s0) [4, 1, 0, 1, 1] [0, 3, 4] [.v (.one (.d (.int .u64) x0)), .v (.one (.own 0)), .v (.one (.d (.int .i64) x1))] [some (.own (.int .u8) false x2)] some = transomref05_Eight.s0c  s0 x0 x1 x2 (fun r => some ⟨.v (.one (.d .str r)), []⟩) := by
  kernel_rfl
def transomref05_Eight.s0 : Nat → Int → Int → (List Int) → Option ByteArray
  | 0, _, _, _ => none
  | k + 1, x0, x1, x2 => transomref05_Eight.s0c  (transomref05_Eight.s0 k) x0 x1 x2 some
def transomref05_Eight.f (k : Nat) (a0 : Int) : Option ByteArray := transomref05_Eight.c  (transomref05_Eight.s0 k) a0 some
theorem transomref05_Eight.is  (s0 : Int → Int → (List Int) → Option ByteArray) : FnIs (env_transomref05_Eight  s0) 36 Go.Proofs.Try.f36 := ⟨Go.Proofs.Try.func36, rfl, rfl, rfl, by decide⟩
theorem transomref05_Eight.envok  (s0 : Int → Int → (List Int) → Option ByteArray)  : EnvOK (env_transomref05_Eight  s0).toEnv := by
  intro f c h
  simp only [env_transomref05_Eight] at h
  simp at h
theorem transomref05_Eight.segs_ok : ∀ k, ∀ s ∈ (env_transomref05_Eight  (transomref05_Eight.s0 k)).segs, SegOK (env_transomref05_Eight  (transomref05_Eight.s0 k)) Go.Proofs.Try.f36 s
  | 0 => by
    intro s hs
    simp only [env_transomref05_Eight, List.mem_cons, List.not_mem_nil, or_false] at hs
    rcases hs with rfl
    · intro tvs blks res h; exfalso; simp only [seg_transomref05_Eight_0] at h; split at h <;> simp [transomref05_Eight.s0] at h
  | k + 1 => by
    have ih := transomref05_Eight.segs_ok k
    intro s hs
    simp only [env_transomref05_Eight, List.mem_cons, List.not_mem_nil, or_false] at hs
    rcases hs with rfl
    · refine seg_of_ev (E := env_transomref05_Eight  (transomref05_Eight.s0 k)) (transomref05_Eight.envok _  ) ⟨(transomref05_Eight.is  (transomref05_Eight.s0 k)).rvs⟩ ih ?_
      intro tvs blks res h
      simp only [seg_transomref05_Eight_0] at h
      split at h
      · refine (transomref05_Eight.s0_ev  (transomref05_Eight.s0 k) _ _ _ ).trans ?_
        rw [transomref05_Eight.s0c_bind]
        exact h
      · simp at h
theorem transomref05_Eight.ok (k : Nat) : CtOK Go.Proofs.Try.prog 36 (ct_transomref05_Eight (transomref05_Eight.f k)) := by
  refine ct_of_ev (E := env_transomref05_Eight  (transomref05_Eight.s0 k)) (transomref05_Eight.is _ ) (transomref05_Eight.envok _  ) (transomref05_Eight.segs_ok k) rfl ?_
  intro tvs blks res h
  simp only [ct_transomref05_Eight] at h
  split at h
  · refine (transomref05_Eight.ev  (transomref05_Eight.s0 k) _ ).trans ?_
    rw [transomref05_Eight.c_bind]
    exact h
  · simp at h

/-! ### transomref02_Key: function 37 -/
def ct_transomref02_Key (g : Int → Option Int) : Ct where
  nin := 0
  mv := []
  F := fun tvs blks {β} K => match tvs, blks with
    | [.v (.one (.d (.int .u64) a0))], [] => (g a0).bind fun r => K ⟨.v (.one (.d (.int .u64) r)), []⟩
    | _, _ => none
  legit := fun tvs blks K r h => by
    split at h
    · obtain ⟨x, hx, hk⟩ := Option.bind_eq_some_iff.1 h
      refine ⟨_, ?_, hk⟩
      simp only [hx, Option.bind_some]
    · simp at h
noncomputable def env_transomref02_Key (g49 : Int → Option Int)  : FEnv := { P := Go.Proofs.Try.prog, ct := fun m => if m = 49 then some (ct_transomref02_Canon g49) else none, N := 12, body := Go.Proofs.Try.f37.body.getD .skip, rvs := [.tmp 2], rts := [23], nin := 0, rmv := [], segs := [] }
def transomref02_Key.c {β : Type} (g49 : Int → Option Int)  (a0 : Int) (ret : Int → Option β) : Option β := ((g49 a0).bind fun r0 => (bif ((Int.fdiv r0 (9223372036854775808 : Int)) == (0 : Int)) then (ret ((IntKind.wrap IntKind.u64 ((BitVec.toNat ((BitVec.ofInt (64 : Nat) r0) ||| (BitVec.ofInt (64 : Nat) (9223372036854775808 : Int)))) : Int)))) else (ret ((IntKind.wrap IntKind.u64 ((BitVec.toNat ((BitVec.ofInt (64 : Nat) (18446744073709551615 : Int)) ^^^ (BitVec.ofInt (64 : Nat) r0))) : Int))))))
theorem transomref02_Key.c_bind {β : Type} (g49 : Int → Option Int)  (a0 : Int) (ret : Int → Option β) : transomref02_Key.c g49  a0 ret = (transomref02_Key.c g49  a0 some).bind ret := by
  simp only [transomref02_Key.c, bif_bind, sum_bind, Option.bind_assoc, Option.bind_some, Option.bind_none, Option.bind_fun_some]
theorem transomref02_Key.ev (g49 : Int → Option Int)  (a0 : Int) : evAt (env_transomref02_Key g49 ) [] [0] [.v (.one (.d (.int .u64) a0))] [] some = transomref02_Key.c g49  a0 (fun r => some ⟨.v (.one (.d (.int .u64) r)), []⟩) := by
  kernel_rfl
def transomref02_Key.f (k : Nat) (a0 : Int) : Option Int := transomref02_Key.c (transomref02_Canon.f k)  a0 some
theorem transomref02_Key.is (g49 : Int → Option Int)  : FnIs (env_transomref02_Key g49 ) 37 Go.Proofs.Try.f37 := ⟨Go.Proofs.Try.func37, rfl, rfl, rfl, by decide⟩
theorem transomref02_Key.envok (g49 : Int → Option Int)  (h49 : CtOK Go.Proofs.Try.prog 49 (ct_transomref02_Canon g49)) : EnvOK (env_transomref02_Key g49 ).toEnv := by
  intro f c h
  simp only [env_transomref02_Key] at h
  split at h
  · rename_i e; subst e; cases h; exact h49
  simp at h
theorem transomref02_Key.ok (k : Nat) : CtOK Go.Proofs.Try.prog 37 (ct_transomref02_Key (transomref02_Key.f k)) := by
  refine ct_of_ev (E := env_transomref02_Key (transomref02_Canon.f k) ) (transomref02_Key.is _ ) (transomref02_Key.envok _  (transomref02_Canon.ok k)) (fun s hs => by simp [env_transomref02_Key] at hs) rfl ?_
  intro tvs blks res h
  simp only [ct_transomref02_Key] at h
  split at h
  · refine (transomref02_Key.ev (transomref02_Canon.f k)  _ ).trans ?_
    rw [transomref02_Key.c_bind]
    exact h
  · simp at h

/-! ### transomref05_escaped: function 38 -/
def ct_transomref05_escaped (g : ByteArray → Option ByteArray) : Ct where
  nin := 0
  mv := []
  F := fun tvs blks {β} K => match tvs, blks with
    | [.v (.one (.d .str a0))], [] => (g a0).bind fun r => K ⟨.v (.one (.d .str r)), []⟩
    | _, _ => none
  legit := fun tvs blks K r h => by
    split at h
    · obtain ⟨x, hx, hk⟩ := Option.bind_eq_some_iff.1 h
      refine ⟨_, ?_, hk⟩
      simp only [hx, Option.bind_some]
    · simp at h
def seg_transomref05_escaped_0 (g : ByteArray → Int → (List Int) → Option ByteArray) : Seg where
  path := [4, 1, 0, 1, 1]
  prep := [.own 3 (.int .u8)]
  keep := [0, 3, 4]
  F := fun tvs blks {β} K => match tvs, blks with
    | [.v (.one (.d .str x0)), .v (.one (.own 0)), .v (.one (.d (.int .i64) x1))], [some (.own (.int .u8) false x2)] => (g x0 x1 x2).bind fun r => K ⟨.v (.one (.d .str r)), []⟩
    | _, _ => none
  legit := fun tvs blks K r h => by
    split at h
    · obtain ⟨x, hx, hk⟩ := Option.bind_eq_some_iff.1 h
      refine ⟨_, ?_, hk⟩
      simp only [hx, Option.bind_some]
    · simp at h
def seg_transomref05_escaped_1 (g : ByteArray → Int → (List Int) → Option ByteArray) : Seg where
  path := [1, 1, 5, 4, 1, 0, 1, 1]
  prep := []
  keep := [0, 3, 4]
  F := fun tvs blks {β} K => match tvs, blks with
    | [.v (.one (.d .str x0)), .v (.one (.own 0)), .v (.one (.d (.int .i64) x1))], [some (.own (.int .u8) false x2)] => (g x0 x1 x2).bind fun r => K ⟨.v (.one (.d .str r)), []⟩
    | _, _ => none
  legit := fun tvs blks K r h => by
    split at h
    · obtain ⟨x, hx, hk⟩ := Option.bind_eq_some_iff.1 h
      refine ⟨_, ?_, hk⟩
      simp only [hx, Option.bind_some]
    · simp at h
noncomputable def env_transomref05_escaped  (s0 : ByteArray → Int → (List Int) → Option ByteArray) (s1 : ByteArray → Int → (List Int) → Option ByteArray) : FEnv := { P := Go.Proofs.Try.prog, ct := fun m => none, N := 29, body := Go.Proofs.Try.f38.body.getD .skip, rvs := [.tmp 2], rts := [9], nin := 0, rmv := [], segs := [seg_transomref05_escaped_0 s0, seg_transomref05_escaped_1 s1] }
def transomref05_escaped.c {β : Type}  (s0 : ByteArray → Int → (List Int) → Option ByteArray) (s1 : ByteArray → Int → (List Int) → Option ByteArray) (a0 : ByteArray) (ret : ByteArray → Option β) : Option β := ((s0 a0 (0 : Int) []).bind ret)
def transomref05_escaped.s0c {β : Type}  (s0 : ByteArray → Int → (List Int) → Option ByteArray) (s1 : ByteArray → Int → (List Int) → Option ByteArray) (x0 : ByteArray) (x1 : Int) (x2 : List Int) (ret : ByteArray → Option β) : Option β := (bif (decide (x1 < ((ByteArray.size x0) : Int))) then (bif ((decide ((0 : Int) ≤ x1)) && (decide (x1 < ((ByteArray.size x0) : Int)))) then (bif (decide ((((List.length x2) + (1 : Nat)) * (1 : Nat)) ≤ (35184372088832 : Nat))) then (bif ((decide ((0 : Int) ≤ x1)) && (decide (x1 < ((ByteArray.size x0) : Int)))) then (bif ((bt x0 x1) == (0 : Int)) then (bif (decide ((((List.length (x2 ++ [(bt x0 x1)])) + (1 : Nat)) * (1 : Nat)) ≤ (35184372088832 : Nat))) then ((s1 x0 x1 ((x2 ++ [(bt x0 x1)]) ++ [(255 : Int)])).bind ret) else none) else ((s1 x0 x1 (x2 ++ [(bt x0 x1)])).bind ret)) else none) else none) else none) else (bif (decide ((((List.length x2) + (2 : Nat)) * (1 : Nat)) ≤ (35184372088832 : Nat))) then (ret ((ByteArray.mk (List.toArray (List.map (fun n => (UInt8.ofNat (Int.toNat n))) (x2 ++ [(0 : Int), (0 : Int)])))))) else none))
def transomref05_escaped.s1c {β : Type}  (s0 : ByteArray → Int → (List Int) → Option ByteArray) (s1 : ByteArray → Int → (List Int) → Option ByteArray) (x0 : ByteArray) (x1 : Int) (x2 : List Int) (ret : ByteArray → Option β) : Option β := ((s0 x0 (IntKind.wrap IntKind.i64 (x1 + (1 : Int))) x2).bind ret)
theorem transomref05_escaped.c_bind {β : Type}  (s0 : ByteArray → Int → (List Int) → Option ByteArray) (s1 : ByteArray → Int → (List Int) → Option ByteArray) (a0 : ByteArray) (ret : ByteArray → Option β) : transomref05_escaped.c  s0 s1 a0 ret = (transomref05_escaped.c  s0 s1 a0 some).bind ret := by
  simp only [transomref05_escaped.c, bif_bind, sum_bind, Option.bind_assoc, Option.bind_some, Option.bind_none, Option.bind_fun_some]
theorem transomref05_escaped.s0c_bind {β : Type}  (s0 : ByteArray → Int → (List Int) → Option ByteArray) (s1 : ByteArray → Int → (List Int) → Option ByteArray) (x0 : ByteArray) (x1 : Int) (x2 : List Int) (ret : ByteArray → Option β) : transomref05_escaped.s0c  s0 s1 x0 x1 x2 ret = (transomref05_escaped.s0c  s0 s1 x0 x1 x2 some).bind ret := by
  simp only [transomref05_escaped.s0c, bif_bind, sum_bind, Option.bind_assoc, Option.bind_some, Option.bind_none, Option.bind_fun_some]
theorem transomref05_escaped.s1c_bind {β : Type}  (s0 : ByteArray → Int → (List Int) → Option ByteArray) (s1 : ByteArray → Int → (List Int) → Option ByteArray) (x0 : ByteArray) (x1 : Int) (x2 : List Int) (ret : ByteArray → Option β) : transomref05_escaped.s1c  s0 s1 x0 x1 x2 ret = (transomref05_escaped.s1c  s0 s1 x0 x1 x2 some).bind ret := by
  simp only [transomref05_escaped.s1c, bif_bind, sum_bind, Option.bind_assoc, Option.bind_some, Option.bind_none, Option.bind_fun_some]
theorem transomref05_escaped.ev  (s0 : ByteArray → Int → (List Int) → Option ByteArray) (s1 : ByteArray → Int → (List Int) → Option ByteArray) (a0 : ByteArray) : evAt (env_transomref05_escaped  s0 s1) [] [0] [.v (.one (.d .str a0))] [] some = transomref05_escaped.c  s0 s1 a0 (fun r => some ⟨.v (.one (.d .str r)), []⟩) := by
  kernel_rfl
theorem transomref05_escaped.s0_ev  (s0 : ByteArray → Int → (List Int) → Option ByteArray) (s1 : ByteArray → Int → (List Int) → Option ByteArray) (x0 : ByteArray) (x1 : Int) (x2 : List Int) : evAt (env_transomref05_escaped  s0 s1) [4, 1, 0, 1, 1] [0, 3, 4] [.v (.one (.d .str x0)), .v (.one (.own 0)), .v (.one (.d (.int .i64) x1))] [some (.own (.int .u8) false x2)] some = transomref05_escaped.s0c  s0 s1 x0 x1 x2 (fun r => some ⟨.v (.one (.d .str r)), []⟩) := by
  kernel_rfl
theorem transomref05_escaped.s1_ev  (s0 : ByteArray → Int → (List Int) → Option ByteArray) (s1 : ByteArray → Int → (List Int) → Option ByteArray) (x0 : ByteArray) (x1 : Int) (x2 : List Int) : evAt (env_transomref05_escaped  s0 s1) [1, 1, 5, 4, 1, 0, 1, 1] [0, 3, 4] [.v (.one (.d .str x0)), .v (.one (.own 0)), .v (.one (.d (.int .i64) x1))] [some (.own (.int .u8) false x2)] some = transomref05_escaped.s1c  s0 s1 x0 x1 x2 (fun r => some ⟨.v (.one (.d .str r)), []⟩) := by
  kernel_rfl
mutual
def transomref05_escaped.s0 : Nat → ByteArray → Int → (List Int) → Option ByteArray
  | 0, _, _, _ => none
  | k + 1, x0, x1, x2 => transomref05_escaped.s0c  (transomref05_escaped.s0 k) (transomref05_escaped.s1 k) x0 x1 x2 some
def transomref05_escaped.s1 : Nat → ByteArray → Int → (List Int) → Option ByteArray
  | 0, _, _, _ => none
  | k + 1, x0, x1, x2 => transomref05_escaped.s1c  (transomref05_escaped.s0 k) (transomref05_escaped.s1 k) x0 x1 x2 some
end
def transomref05_escaped.f (k : Nat) (a0 : ByteArray) : Option ByteArray := transomref05_escaped.c  (transomref05_escaped.s0 k) (transomref05_escaped.s1 k) a0 some
theorem transomref05_escaped.is  (s0 : ByteArray → Int → (List Int) → Option ByteArray) (s1 : ByteArray → Int → (List Int) → Option ByteArray) : FnIs (env_transomref05_escaped  s0 s1) 38 Go.Proofs.Try.f38 := ⟨Go.Proofs.Try.func38, rfl, rfl, rfl, by decide⟩
theorem transomref05_escaped.envok  (s0 : ByteArray → Int → (List Int) → Option ByteArray) (s1 : ByteArray → Int → (List Int) → Option ByteArray)  : EnvOK (env_transomref05_escaped  s0 s1).toEnv := by
  intro f c h
  simp only [env_transomref05_escaped] at h
  simp at h
theorem transomref05_escaped.segs_ok : ∀ k, ∀ s ∈ (env_transomref05_escaped  (transomref05_escaped.s0 k) (transomref05_escaped.s1 k)).segs, SegOK (env_transomref05_escaped  (transomref05_escaped.s0 k) (transomref05_escaped.s1 k)) Go.Proofs.Try.f38 s
  | 0 => by
    intro s hs
    simp only [env_transomref05_escaped, List.mem_cons, List.not_mem_nil, or_false] at hs
    rcases hs with rfl | rfl
    · intro tvs blks res h; exfalso; simp only [seg_transomref05_escaped_0] at h; split at h <;> simp [transomref05_escaped.s0] at h
    · intro tvs blks res h; exfalso; simp only [seg_transomref05_escaped_1] at h; split at h <;> simp [transomref05_escaped.s1] at h
  | k + 1 => by
    have ih := transomref05_escaped.segs_ok k
    intro s hs
    simp only [env_transomref05_escaped, List.mem_cons, List.not_mem_nil, or_false] at hs
    rcases hs with rfl | rfl
    · refine seg_of_ev (E := env_transomref05_escaped  (transomref05_escaped.s0 k) (transomref05_escaped.s1 k)) (transomref05_escaped.envok _ _  ) ⟨(transomref05_escaped.is  (transomref05_escaped.s0 k) (transomref05_escaped.s1 k)).rvs⟩ ih ?_
      intro tvs blks res h
      simp only [seg_transomref05_escaped_0] at h
      split at h
      · refine (transomref05_escaped.s0_ev  (transomref05_escaped.s0 k) (transomref05_escaped.s1 k) _ _ _ ).trans ?_
        rw [transomref05_escaped.s0c_bind]
        exact h
      · simp at h
    · refine seg_of_ev (E := env_transomref05_escaped  (transomref05_escaped.s0 k) (transomref05_escaped.s1 k)) (transomref05_escaped.envok _ _  ) ⟨(transomref05_escaped.is  (transomref05_escaped.s0 k) (transomref05_escaped.s1 k)).rvs⟩ ih ?_
      intro tvs blks res h
      simp only [seg_transomref05_escaped_1] at h
      split at h
      · refine (transomref05_escaped.s1_ev  (transomref05_escaped.s0 k) (transomref05_escaped.s1 k) _ _ _ ).trans ?_
        rw [transomref05_escaped.s1c_bind]
        exact h
      · simp at h
theorem transomref05_escaped.ok (k : Nat) : CtOK Go.Proofs.Try.prog 38 (ct_transomref05_escaped (transomref05_escaped.f k)) := by
  refine ct_of_ev (E := env_transomref05_escaped  (transomref05_escaped.s0 k) (transomref05_escaped.s1 k)) (transomref05_escaped.is _ _ ) (transomref05_escaped.envok _ _  ) (transomref05_escaped.segs_ok k) rfl ?_
  intro tvs blks res h
  simp only [ct_transomref05_escaped] at h
  split at h
  · refine (transomref05_escaped.ev  (transomref05_escaped.s0 k) (transomref05_escaped.s1 k) _ ).trans ?_
    rw [transomref05_escaped.c_bind]
    exact h
  · simp at h

/-! ### transomref05_Put: function 22 -/
def ct_transomref05_Put (g : Int → Int → Int → ByteArray → Option (ByteArray × Int)) : Ct where
  nin := 0
  mv := []
  F := fun tvs blks {β} K => match tvs, blks with
    | [.v (.agg [(.d (.int .i64) a0), (.d (.int .i64) a1), (.d (.int .u64) a2), (.d .str a3)])], [] => (g a0 a1 a2 a3).bind fun r => K ⟨.tup [(.one (.d .str r.1)), (.one (.d (.int .i64) r.2))], []⟩
    | _, _ => none
  legit := fun tvs blks K r h => by
    split at h
    · obtain ⟨x, hx, hk⟩ := Option.bind_eq_some_iff.1 h
      refine ⟨_, ?_, hk⟩
      simp only [hx, Option.bind_some]
    · simp at h
noncomputable def env_transomref05_Put (g34 : Int → Int → Int → ByteArray → Option Int) (g36 : Int → Option ByteArray) (g37 : Int → Option Int) (g38 : ByteArray → Option ByteArray)  : FEnv := { P := Go.Proofs.Try.prog, ct := fun m => if m = 34 then some (ct_transomref04_Check g34) else if m = 36 then some (ct_transomref05_Eight g36) else if m = 37 then some (ct_transomref02_Key g37) else if m = 38 then some (ct_transomref05_escaped g38) else none, N := 53, body := Go.Proofs.Try.f22.body.getD .skip, rvs := [.tmp 2, .tmp 3], rts := [9, 3], nin := 0, rmv := [], segs := [] }
def transomref05_Put.c {β : Type} (g34 : Int → Int → Int → ByteArray → Option Int) (g36 : Int → Option ByteArray) (g37 : Int → Option Int) (g38 : ByteArray → Option ByteArray)  (a0 : Int) (a1 : Int) (a2 : Int) (a3 : ByteArray) (ret : (ByteArray × Int) → Option β) : Option β := ((g34 a0 a1 a2 a3).bind fun r0 => (bif (r0 != (0 : Int)) then (ret ((ByteArray.mk (List.toArray [])), r0)) else (bif (a0 == (1 : Int)) then (ret (((ByteArray.mk (List.toArray (List.map (fun n => (UInt8.ofNat (Int.toNat n))) [(IntKind.wrap IntKind.u8 a0)]))) ++ (ByteArray.mk (List.toArray (List.map (fun n => (UInt8.ofNat (Int.toNat n))) [(IntKind.wrap IntKind.u8 a1)])))), (0 : Int))) else (bif (a0 == (2 : Int)) then ((g36 (IntKind.wrap IntKind.u64 ((BitVec.toNat ((BitVec.ofInt (64 : Nat) (IntKind.wrap IntKind.u64 a1)) ^^^ (BitVec.ofInt (64 : Nat) (9223372036854775808 : Int)))) : Int))).bind fun r1 => (bif (true && (decide ((ByteArray.size r1) ≤ (4611686018427387903 : Nat)))) then (ret (((ByteArray.mk (List.toArray (List.map (fun n => (UInt8.ofNat (Int.toNat n))) [(IntKind.wrap IntKind.u8 a0)]))) ++ r1), (0 : Int))) else none)) else (bif (a0 == (3 : Int)) then ((g37 a2).bind fun r2 => ((g36 r2).bind fun r3 => (bif (true && (decide ((ByteArray.size r3) ≤ (4611686018427387903 : Nat)))) then (ret (((ByteArray.mk (List.toArray (List.map (fun n => (UInt8.ofNat (Int.toNat n))) [(IntKind.wrap IntKind.u8 a0)]))) ++ r3), (0 : Int))) else none))) else (bif (a0 == (4 : Int)) then (bif (a0 == (4 : Int)) then ((g38 a3).bind fun r4 => (bif (true && (decide ((ByteArray.size r4) ≤ (4611686018427387903 : Nat)))) then (ret (((ByteArray.mk (List.toArray (List.map (fun n => (UInt8.ofNat (Int.toNat n))) [(IntKind.wrap IntKind.u8 a0)]))) ++ r4), (0 : Int))) else none)) else (ret ((ByteArray.mk (List.toArray (List.map (fun n => (UInt8.ofNat (Int.toNat n))) [(IntKind.wrap IntKind.u8 a0)]))), (0 : Int)))) else (bif (a0 == (5 : Int)) then ((g38 a3).bind fun r5 => (bif (true && (decide ((ByteArray.size r5) ≤ (4611686018427387903 : Nat)))) then (ret (((ByteArray.mk (List.toArray (List.map (fun n => (UInt8.ofNat (Int.toNat n))) [(IntKind.wrap IntKind.u8 a0)]))) ++ r5), (0 : Int))) else none)) else (ret ((ByteArray.mk (List.toArray (List.map (fun n => (UInt8.ofNat (Int.toNat n))) [(IntKind.wrap IntKind.u8 a0)]))), (0 : Int))))))))))
theorem transomref05_Put.c_bind {β : Type} (g34 : Int → Int → Int → ByteArray → Option Int) (g36 : Int → Option ByteArray) (g37 : Int → Option Int) (g38 : ByteArray → Option ByteArray)  (a0 : Int) (a1 : Int) (a2 : Int) (a3 : ByteArray) (ret : (ByteArray × Int) → Option β) : transomref05_Put.c g34 g36 g37 g38  a0 a1 a2 a3 ret = (transomref05_Put.c g34 g36 g37 g38  a0 a1 a2 a3 some).bind ret := by
  simp only [transomref05_Put.c, bif_bind, sum_bind, Option.bind_assoc, Option.bind_some, Option.bind_none, Option.bind_fun_some]
theorem transomref05_Put.ev (g34 : Int → Int → Int → ByteArray → Option Int) (g36 : Int → Option ByteArray) (g37 : Int → Option Int) (g38 : ByteArray → Option ByteArray)  (a0 : Int) (a1 : Int) (a2 : Int) (a3 : ByteArray) : evAt (env_transomref05_Put g34 g36 g37 g38 ) [] [0] [.v (.agg [(.d (.int .i64) a0), (.d (.int .i64) a1), (.d (.int .u64) a2), (.d .str a3)])] [] some = transomref05_Put.c g34 g36 g37 g38  a0 a1 a2 a3 (fun r => some ⟨.tup [(.one (.d .str r.1)), (.one (.d (.int .i64) r.2))], []⟩) := by
  kernel_rfl
def transomref05_Put.f (k : Nat) (a0 : Int) (a1 : Int) (a2 : Int) (a3 : ByteArray) : Option (ByteArray × Int) := transomref05_Put.c (transomref04_Check.f k) (transomref05_Eight.f k) (transomref02_Key.f k) (transomref05_escaped.f k)  a0 a1 a2 a3 some
theorem transomref05_Put.is (g34 : Int → Int → Int → ByteArray → Option Int) (g36 : Int → Option ByteArray) (g37 : Int → Option Int) (g38 : ByteArray → Option ByteArray)  : FnIs (env_transomref05_Put g34 g36 g37 g38 ) 22 Go.Proofs.Try.f22 := ⟨Go.Proofs.Try.func22, rfl, rfl, rfl, by decide⟩
theorem transomref05_Put.envok (g34 : Int → Int → Int → ByteArray → Option Int) (g36 : Int → Option ByteArray) (g37 : Int → Option Int) (g38 : ByteArray → Option ByteArray)  (h34 : CtOK Go.Proofs.Try.prog 34 (ct_transomref04_Check g34)) (h36 : CtOK Go.Proofs.Try.prog 36 (ct_transomref05_Eight g36)) (h37 : CtOK Go.Proofs.Try.prog 37 (ct_transomref02_Key g37)) (h38 : CtOK Go.Proofs.Try.prog 38 (ct_transomref05_escaped g38)) : EnvOK (env_transomref05_Put g34 g36 g37 g38 ).toEnv := by
  intro f c h
  simp only [env_transomref05_Put] at h
  split at h
  · rename_i e; subst e; cases h; exact h34
  split at h
  · rename_i e; subst e; cases h; exact h36
  split at h
  · rename_i e; subst e; cases h; exact h37
  split at h
  · rename_i e; subst e; cases h; exact h38
  simp at h
theorem transomref05_Put.ok (k : Nat) : CtOK Go.Proofs.Try.prog 22 (ct_transomref05_Put (transomref05_Put.f k)) := by
  refine ct_of_ev (E := env_transomref05_Put (transomref04_Check.f k) (transomref05_Eight.f k) (transomref02_Key.f k) (transomref05_escaped.f k) ) (transomref05_Put.is _ _ _ _ ) (transomref05_Put.envok _ _ _ _  (transomref04_Check.ok k) (transomref05_Eight.ok k) (transomref02_Key.ok k) (transomref05_escaped.ok k)) (fun s hs => by simp [env_transomref05_Put] at hs) rfl ?_
  intro tvs blks res h
  simp only [ct_transomref05_Put] at h
  split at h
  · refine (transomref05_Put.ev (transomref04_Check.f k) (transomref05_Eight.f k) (transomref02_Key.f k) (transomref05_escaped.f k)  _ _ _ _ ).trans ?_
    rw [transomref05_Put.c_bind]
    exact h
  · simp at h
end Go.Proofs.Ytpcojbnoadnknaa.Aev
