/- By a program of this session (AEV): functions of the program as plain functions, and that the machine does what they say. -/
import Derived.Test.YtpcojbnoadnknaaAevW
import Derived.Test.YtpcojbnoadnknaaProg
import Derived.Laws.Externs
import Derived.Lib.Bytealg
import Derived.Test.YtpcojbnoadnknaaF13
namespace Go.Proofs.Ytpcojbnoadnknaa.Aev
set_option linter.unusedVariables false
set_option linter.unusedSimpArgs false
set_option maxRecDepth 100000
set_option maxHeartbeats 4000000
open Go
/-! ### transomref05_Row: function 21 -/
def ct_transomref05_Row (g : (List (Int × (Int × (Int × (ByteArray × Unit))))) → Option (ByteArray × Int)) : Ct where
  nin := 0
  mv := []
  F := fun tvs blks {β} K => match tvs, blks with
    | [.v (.one (.d (.sl (.pair (.int .i64) (.pair (.int .i64) (.pair (.int .u64) (.pair .str .unit))))) a0))], [] => (g a0).bind fun r => K ⟨.tup [(.one (.d .str r.1)), (.one (.d (.int .i64) r.2))], []⟩
    | _, _ => none
  legit := fun tvs blks K r h => by
    split at h
    · obtain ⟨x, hx, hk⟩ := Option.bind_eq_some_iff.1 h
      refine ⟨_, ?_, hk⟩
      simp only [hx, Option.bind_some]
    · simp at h
def seg_transomref05_Row_0 (g : (List (Int × (Int × (Int × (ByteArray × Unit))))) → ByteArray → Int → Option (ByteArray × Int)) : Seg where
  path := [4, 1, 0, 1, 1]
  prep := []
  keep := [0, 4, 5]
  F := fun tvs blks {β} K => match tvs, blks with
    | [.v (.one (.d (.sl (.pair (.int .i64) (.pair (.int .i64) (.pair (.int .u64) (.pair .str .unit))))) x0)), .v (.one (.d .str x1)), .v (.one (.d (.int .i64) x2))], [] => (g x0 x1 x2).bind fun r => K ⟨.tup [(.one (.d .str r.1)), (.one (.d (.int .i64) r.2))], []⟩
    | _, _ => none
  legit := fun tvs blks K r h => by
    split at h
    · obtain ⟨x, hx, hk⟩ := Option.bind_eq_some_iff.1 h
      refine ⟨_, ?_, hk⟩
      simp only [hx, Option.bind_some]
    · simp at h
noncomputable def env_transomref05_Row (g22 : Int → Int → Int → ByteArray → Option (ByteArray × Int)) (s0 : (List (Int × (Int × (Int × (ByteArray × Unit))))) → ByteArray → Int → Option (ByteArray × Int)) : FEnv := { P := Go.Proofs.Try.prog, ct := fun m => if m = 22 then some (ct_transomref05_Put g22) else none, N := 29, body := Go.Proofs.Try.f21.body.getD .skip, rvs := [.tmp 2, .tmp 3], rts := [9, 3], nin := 0, rmv := [], segs := [seg_transomref05_Row_0 s0] }
def transomref05_Row.c {β : Type} (g22 : Int → Int → Int → ByteArray → Option (ByteArray × Int)) (s0 : (List (Int × (Int × (Int × (ByteArray × Unit))))) → ByteArray → Int → Option (ByteArray × Int)) (a0 : List (Int × (Int × (Int × (ByteArray × Unit))))) (ret : (ByteArray × Int) → Option β) : Option β := ((s0 a0 (ByteArray.mk (List.toArray [])) (0 : Int)).bind ret)
def transomref05_Row.s0c {β : Type} (g22 : Int → Int → Int → ByteArray → Option (ByteArray × Int)) (s0 : (List (Int × (Int × (Int × (ByteArray × Unit))))) → ByteArray → Int → Option (ByteArray × Int)) (x0 : List (Int × (Int × (Int × (ByteArray × Unit))))) (x1 : ByteArray) (x2 : Int) (ret : (ByteArray × Int) → Option β) : Option β := (bif (decide (x2 < ((List.length x0) : Int))) then (bif ((decide ((0 : Int) ≤ x2)) && (decide (x2 < ((List.length x0) : Int)))) then ((g22 (elem (Ty.pair (Ty.int IntKind.i64) (Ty.pair (Ty.int IntKind.i64) (Ty.pair (Ty.int IntKind.u64) (Ty.pair Ty.str Ty.unit)))) x0 x2).1 (elem (Ty.pair (Ty.int IntKind.i64) (Ty.pair (Ty.int IntKind.i64) (Ty.pair (Ty.int IntKind.u64) (Ty.pair Ty.str Ty.unit)))) x0 x2).2.1 (elem (Ty.pair (Ty.int IntKind.i64) (Ty.pair (Ty.int IntKind.i64) (Ty.pair (Ty.int IntKind.u64) (Ty.pair Ty.str Ty.unit)))) x0 x2).2.2.1 (elem (Ty.pair (Ty.int IntKind.i64) (Ty.pair (Ty.int IntKind.i64) (Ty.pair (Ty.int IntKind.u64) (Ty.pair Ty.str Ty.unit)))) x0 x2).2.2.2.1).bind fun r0 => (bif (r0.2 != (0 : Int)) then (ret ((ByteArray.mk (List.toArray [])), r0.2)) else (bif ((decide ((ByteArray.size x1) ≤ (4611686018427387903 : Nat))) && (decide ((ByteArray.size r0.1) ≤ (4611686018427387903 : Nat)))) then ((s0 x0 (x1 ++ r0.1) (IntKind.wrap IntKind.i64 (x2 + (1 : Int)))).bind ret) else none))) else none) else (ret (x1, (0 : Int))))
theorem transomref05_Row.c_bind {β : Type} (g22 : Int → Int → Int → ByteArray → Option (ByteArray × Int)) (s0 : (List (Int × (Int × (Int × (ByteArray × Unit))))) → ByteArray → Int → Option (ByteArray × Int)) (a0 : List (Int × (Int × (Int × (ByteArray × Unit))))) (ret : (ByteArray × Int) → Option β) : transomref05_Row.c g22 s0 a0 ret = (transomref05_Row.c g22 s0 a0 some).bind ret := by
  simp only [transomref05_Row.c, bif_bind, sum_bind, Option.bind_assoc, Option.bind_some, Option.bind_none, Option.bind_fun_some]
theorem transomref05_Row.s0c_bind {β : Type} (g22 : Int → Int → Int → ByteArray → Option (ByteArray × Int)) (s0 : (List (Int × (Int × (Int × (ByteArray × Unit))))) → ByteArray → Int → Option (ByteArray × Int)) (x0 : List (Int × (Int × (Int × (ByteArray × Unit))))) (x1 : ByteArray) (x2 : Int) (ret : (ByteArray × Int) → Option β) : transomref05_Row.s0c g22 s0 x0 x1 x2 ret = (transomref05_Row.s0c g22 s0 x0 x1 x2 some).bind ret := by
  simp only [transomref05_Row.s0c, bif_bind, sum_bind, Option.bind_assoc, Option.bind_some, Option.bind_none, Option.bind_fun_some]
theorem transomref05_Row.ev (g22 : Int → Int → Int → ByteArray → Option (ByteArray × Int)) (s0 : (List (Int × (Int × (Int × (ByteArray × Unit))))) → ByteArray → Int → Option (ByteArray × Int)) (a0 : List (Int × (Int × (Int × (ByteArray × Unit))))) : evAt (env_transomref05_Row g22 s0) [] [0] [.v (.one (.d (.sl (.pair (.int .i64) (.pair (.int .i64) (.pair (.int .u64) (.pair .str .unit))))) a0))] [] some = transomref05_Row.c g22 s0 a0 (fun r => some ⟨.tup [(.one (.d .str r.1)), (.one (.d (.int .i64) r.2))], []⟩) := by
  kernel_rfl
theorem transomref05_Row.s0_ev (g22 : Int → Int → Int → ByteArray → Option (ByteArray × Int)) (s0 : (List (Int × (Int × (Int × (ByteArray × Unit))))) → ByteArray → Int → Option (ByteArray × Int)) (x0 : List (Int × (Int × (Int × (ByteArray × Unit))))) (x1 : ByteArray) (x2 : Int) : evAt (env_transomref05_Row g22 s0) [4, 1, 0, 1, 1] [0, 4, 5] [.v (.one (.d (.sl (.pair (.int .i64) (.pair (.int .i64) (.pair (.int .u64) (.pair .str .unit))))) x0)), .v (.one (.d .str x1)), .v (.one (.d (.int .i64) x2))] [] some = transomref05_Row.s0c g22 s0 x0 x1 x2 (fun r => some ⟨.tup [(.one (.d .str r.1)), (.one (.d (.int .i64) r.2))], []⟩) := by
  kernel_rfl
def transomref05_Row.s0 : Nat → (List (Int × (Int × (Int × (ByteArray × Unit))))) → ByteArray → Int → Option (ByteArray × Int)
  | 0, _, _, _ => none
  | k + 1, x0, x1, x2 => transomref05_Row.s0c (transomref05_Put.f k) (transomref05_Row.s0 k) x0 x1 x2 some
def transomref05_Row.f (k : Nat) (a0 : List (Int × (Int × (Int × (ByteArray × Unit))))) : Option (ByteArray × Int) := transomref05_Row.c (transomref05_Put.f k) (transomref05_Row.s0 k) a0 some
theorem transomref05_Row.is (g22 : Int → Int → Int → ByteArray → Option (ByteArray × Int)) (s0 : (List (Int × (Int × (Int × (ByteArray × Unit))))) → ByteArray → Int → Option (ByteArray × Int)) : FnIs (env_transomref05_Row g22 s0) 21 Go.Proofs.Try.f21 := ⟨Go.Proofs.Try.func21, rfl, rfl, rfl, by decide⟩
theorem transomref05_Row.envok (g22 : Int → Int → Int → ByteArray → Option (ByteArray × Int)) (s0 : (List (Int × (Int × (Int × (ByteArray × Unit))))) → ByteArray → Int → Option (ByteArray × Int)) (h22 : CtOK Go.Proofs.Try.prog 22 (ct_transomref05_Put g22)) : EnvOK (env_transomref05_Row g22 s0).toEnv := by
  intro f c h
  simp only [env_transomref05_Row] at h
  split at h
  · rename_i e; subst e; cases h; exact h22
  simp at h
theorem transomref05_Row.segs_ok : ∀ k, ∀ s ∈ (env_transomref05_Row (transomref05_Put.f k) (transomref05_Row.s0 k)).segs, SegOK (env_transomref05_Row (transomref05_Put.f k) (transomref05_Row.s0 k)) Go.Proofs.Try.f21 s
  | 0 => by
    intro s hs
    simp only [env_transomref05_Row, List.mem_cons, List.not_mem_nil, or_false] at hs
    rcases hs with rfl
    · intro tvs blks res h; exfalso; simp only [seg_transomref05_Row_0] at h; split at h <;> simp [transomref05_Row.s0] at h
  | k + 1 => by
    have ih := transomref05_Row.segs_ok k
    intro s hs
    simp only [env_transomref05_Row, List.mem_cons, List.not_mem_nil, or_false] at hs
    rcases hs with rfl
    · refine seg_of_ev (E := env_transomref05_Row (transomref05_Put.f k) (transomref05_Row.s0 k)) (transomref05_Row.envok _ _  (transomref05_Put.ok k)) ⟨(transomref05_Row.is (transomref05_Put.f k) (transomref05_Row.s0 k)).rvs⟩ ih ?_
      intro tvs blks res h
      simp only [seg_transomref05_Row_0] at h
      split at h
      · refine (transomref05_Row.s0_ev (transomref05_Put.f k) (transomref05_Row.s0 k) _ _ _ ).trans ?_
        rw [transomref05_Row.s0c_bind]
        exact h
      · simp at h
theorem transomref05_Row.ok (k : Nat) : CtOK Go.Proofs.Try.prog 21 (ct_transomref05_Row (transomref05_Row.f k)) := by
  refine ct_of_ev (E := env_transomref05_Row (transomref05_Put.f k) (transomref05_Row.s0 k)) (transomref05_Row.is _ _ ) (transomref05_Row.envok _ _  (transomref05_Put.ok k)) (transomref05_Row.segs_ok k) rfl ?_
  intro tvs blks res h
  simp only [ct_transomref05_Row] at h
  split at h
  · refine (transomref05_Row.ev (transomref05_Put.f k) (transomref05_Row.s0 k) _ ).trans ?_
    rw [transomref05_Row.c_bind]
    exact h
  · simp at h
end Go.Proofs.Ytpcojbnoadnknaa.Aev
