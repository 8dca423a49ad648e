/- By a program of this session (AEV): functions of the program as plain functions, and that the machine does what they say. -/
import Derived.Test.YtpcojbnoadnknaaAevW
import Derived.Test.YtpcojbnoadnknaaProg
import Derived.Laws.Externs
import Derived.Lib.Bytealg
import Derived.Test.YtpcojbnoadnknaaF3
import Derived.Test.YtpcojbnoadnknaaF13
import Derived.Test.YtpcojbnoadnknaaF14
namespace Go.Proofs.Ytpcojbnoadnknaa.Aev
set_option linter.unusedVariables false
set_option linter.unusedSimpArgs false
set_option maxRecDepth 100000
set_option maxHeartbeats 4000000
open Go
/-! ### transomlaw05_KeycodePuts: function 6 -/
def ct_transomlaw05_KeycodePuts (g : (List (Int × (Int × (Int × (ByteArray × Unit))))) → Option Bool) : Ct where
  nin := 0
  mv := []
  F := fun tvs blks {β} K => match tvs, blks with
    | [.v (.one (.d (.sl (.pair (.int .i64) (.pair (.int .i64) (.pair (.int .u64) (.pair .str .unit))))) a0))], [] => (g a0).bind fun r => K ⟨.v (.one (.d .bool r)), []⟩
    | _, _ => none
  legit := fun tvs blks K r h => by
    split at h
    · obtain ⟨x, hx, hk⟩ := Option.bind_eq_some_iff.1 h
      refine ⟨_, ?_, hk⟩
      simp only [hx, Option.bind_some]
    · simp at h
def seg_transomlaw05_KeycodePuts_0 (g : ByteArray → Int → ByteArray → Int → Bool → Option Bool) : Seg where
  path := [1, 1, 1, 2, 1, 0, 1, 1, 1, 1]
  prep := []
  keep := [3, 4, 5, 6, 49]
  F := fun tvs blks {β} K => match tvs, blks with
    | [.v (.one (.d .str x0)), .v (.one (.d (.int .i64) x1)), .v (.one (.d .str x2)), .v (.one (.d (.int .i64) x3)), .v (.one (.d .bool x4))], [] => (g x0 x1 x2 x3 x4).bind fun r => K ⟨.v (.one (.d .bool r)), []⟩
    | _, _ => none
  legit := fun tvs blks K r h => by
    split at h
    · obtain ⟨x, hx, hk⟩ := Option.bind_eq_some_iff.1 h
      refine ⟨_, ?_, hk⟩
      simp only [hx, Option.bind_some]
    · simp at h
noncomputable def env_transomlaw05_KeycodePuts (g8 : Option Bool) (g18 : Int → Int → Int → ByteArray → Option (ByteArray × Int)) (g19 : (List (Int × (Int × (Int × (ByteArray × Unit))))) → Option Int) (g20 : (List (Int × (Int × (Int × (ByteArray × Unit))))) → Option (ByteArray × Int)) (g21 : (List (Int × (Int × (Int × (ByteArray × Unit))))) → Option (ByteArray × Int)) (g22 : Int → Int → Int → ByteArray → Option (ByteArray × Int)) (s0 : ByteArray → Int → ByteArray → Int → Bool → Option Bool) : FEnv := { P := Go.Proofs.Try.prog, ct := fun m => if m = 8 then some (ct_transomlaw05_awake g8) else if m = 18 then some (ct_keycode_Put g18) else if m = 19 then some (ct_transomlaw05_Few g19) else if m = 20 then some (ct_keycode_Row g20) else if m = 21 then some (ct_transomref05_Row g21) else if m = 22 then some (ct_transomref05_Put g22) else none, N := 61, body := Go.Proofs.Try.f6.body.getD .skip, rvs := [.tmp 2], rts := [4], nin := 0, rmv := [], segs := [seg_transomlaw05_KeycodePuts_0 s0] }
def transomlaw05_KeycodePuts.c {β : Type} (g8 : Option Bool) (g18 : Int → Int → Int → ByteArray → Option (ByteArray × Int)) (g19 : (List (Int × (Int × (Int × (ByteArray × Unit))))) → Option Int) (g20 : (List (Int × (Int × (Int × (ByteArray × Unit))))) → Option (ByteArray × Int)) (g21 : (List (Int × (Int × (Int × (ByteArray × Unit))))) → Option (ByteArray × Int)) (g22 : Int → Int → Int → ByteArray → Option (ByteArray × Int)) (s0 : ByteArray → Int → ByteArray → Int → Bool → Option Bool) (a0 : List (Int × (Int × (Int × (ByteArray × Unit))))) (ret : Bool → Option β) : Option β := ((g19 a0).bind fun r0 => (bif (r0 == (0 : Int)) then (g8.bind fun r1 => (ret (r1))) else ((g20 a0).bind fun r2 => ((g21 a0).bind fun r3 => (bif (decide (((List.length a0) : Int) > (0 : Int))) then (bif (true && (decide ((0 : Int) < ((List.length a0) : Int)))) then ((g18 (elem (Ty.pair (Ty.int IntKind.i64) (Ty.pair (Ty.int IntKind.i64) (Ty.pair (Ty.int IntKind.u64) (Ty.pair Ty.str Ty.unit)))) a0 (0 : Int)).1 (elem (Ty.pair (Ty.int IntKind.i64) (Ty.pair (Ty.int IntKind.i64) (Ty.pair (Ty.int IntKind.u64) (Ty.pair Ty.str Ty.unit)))) a0 (0 : Int)).2.1 (elem (Ty.pair (Ty.int IntKind.i64) (Ty.pair (Ty.int IntKind.i64) (Ty.pair (Ty.int IntKind.u64) (Ty.pair Ty.str Ty.unit)))) a0 (0 : Int)).2.2.1 (elem (Ty.pair (Ty.int IntKind.i64) (Ty.pair (Ty.int IntKind.i64) (Ty.pair (Ty.int IntKind.u64) (Ty.pair Ty.str Ty.unit)))) a0 (0 : Int)).2.2.2.1).bind fun r4 => (bif (true && (decide ((0 : Int) < ((List.length a0) : Int)))) then ((g22 (elem (Ty.pair (Ty.int IntKind.i64) (Ty.pair (Ty.int IntKind.i64) (Ty.pair (Ty.int IntKind.u64) (Ty.pair Ty.str Ty.unit)))) a0 (0 : Int)).1 (elem (Ty.pair (Ty.int IntKind.i64) (Ty.pair (Ty.int IntKind.i64) (Ty.pair (Ty.int IntKind.u64) (Ty.pair Ty.str Ty.unit)))) a0 (0 : Int)).2.1 (elem (Ty.pair (Ty.int IntKind.i64) (Ty.pair (Ty.int IntKind.i64) (Ty.pair (Ty.int IntKind.u64) (Ty.pair Ty.str Ty.unit)))) a0 (0 : Int)).2.2.1 (elem (Ty.pair (Ty.int IntKind.i64) (Ty.pair (Ty.int IntKind.i64) (Ty.pair (Ty.int IntKind.u64) (Ty.pair Ty.str Ty.unit)))) a0 (0 : Int)).2.2.2.1).bind fun r5 => (bif (!((ByteArray.toList r4.1) == (ByteArray.toList r5.1))) then ((s0 r2.1 r2.2 r3.1 r3.2 true).bind ret) else ((s0 r2.1 r2.2 r3.1 r3.2 (r4.2 != r5.2)).bind ret))) else none)) else none) else (bif ((ByteArray.toList r2.1) == (ByteArray.toList r3.1)) then (bif (r2.2 == r3.2) then (g8.bind fun r6 => (ret (r6))) else (ret (false))) else (ret (false))))))))
def transomlaw05_KeycodePuts.s0c {β : Type} (g8 : Option Bool) (g18 : Int → Int → Int → ByteArray → Option (ByteArray × Int)) (g19 : (List (Int × (Int × (Int × (ByteArray × Unit))))) → Option Int) (g20 : (List (Int × (Int × (Int × (ByteArray × Unit))))) → Option (ByteArray × Int)) (g21 : (List (Int × (Int × (Int × (ByteArray × Unit))))) → Option (ByteArray × Int)) (g22 : Int → Int → Int → ByteArray → Option (ByteArray × Int)) (s0 : ByteArray → Int → ByteArray → Int → Bool → Option Bool) (x0 : ByteArray) (x1 : Int) (x2 : ByteArray) (x3 : Int) (x4 : Bool) (ret : Bool → Option β) : Option β := (bif x4 then (ret (false)) else (bif ((ByteArray.toList x0) == (ByteArray.toList x2)) then (bif (x1 == x3) then (g8.bind fun r0 => (ret (r0))) else (ret (false))) else (ret (false))))
theorem transomlaw05_KeycodePuts.c_bind {β : Type} (g8 : Option Bool) (g18 : Int → Int → Int → ByteArray → Option (ByteArray × Int)) (g19 : (List (Int × (Int × (Int × (ByteArray × Unit))))) → Option Int) (g20 : (List (Int × (Int × (Int × (ByteArray × Unit))))) → Option (ByteArray × Int)) (g21 : (List (Int × (Int × (Int × (ByteArray × Unit))))) → Option (ByteArray × Int)) (g22 : Int → Int → Int → ByteArray → Option (ByteArray × Int)) (s0 : ByteArray → Int → ByteArray → Int → Bool → Option Bool) (a0 : List (Int × (Int × (Int × (ByteArray × Unit))))) (ret : Bool → Option β) : transomlaw05_KeycodePuts.c g8 g18 g19 g20 g21 g22 s0 a0 ret = (transomlaw05_KeycodePuts.c g8 g18 g19 g20 g21 g22 s0 a0 some).bind ret := by
  simp only [transomlaw05_KeycodePuts.c, bif_bind, sum_bind, Option.bind_assoc, Option.bind_some, Option.bind_none, Option.bind_fun_some]
theorem transomlaw05_KeycodePuts.s0c_bind {β : Type} (g8 : Option Bool) (g18 : Int → Int → Int → ByteArray → Option (ByteArray × Int)) (g19 : (List (Int × (Int × (Int × (ByteArray × Unit))))) → Option Int) (g20 : (List (Int × (Int × (Int × (ByteArray × Unit))))) → Option (ByteArray × Int)) (g21 : (List (Int × (Int × (Int × (ByteArray × Unit))))) → Option (ByteArray × Int)) (g22 : Int → Int → Int → ByteArray → Option (ByteArray × Int)) (s0 : ByteArray → Int → ByteArray → Int → Bool → Option Bool) (x0 : ByteArray) (x1 : Int) (x2 : ByteArray) (x3 : Int) (x4 : Bool) (ret : Bool → Option β) : transomlaw05_KeycodePuts.s0c g8 g18 g19 g20 g21 g22 s0 x0 x1 x2 x3 x4 ret = (transomlaw05_KeycodePuts.s0c g8 g18 g19 g20 g21 g22 s0 x0 x1 x2 x3 x4 some).bind ret := by
  simp only [transomlaw05_KeycodePuts.s0c, bif_bind, sum_bind, Option.bind_assoc, Option.bind_some, Option.bind_none, Option.bind_fun_some]
theorem transomlaw05_KeycodePuts.ev (g8 : Option Bool) (g18 : Int → Int → Int → ByteArray → Option (ByteArray × Int)) (g19 : (List (Int × (Int × (Int × (ByteArray × Unit))))) → Option Int) (g20 : (List (Int × (Int × (Int × (ByteArray × Unit))))) → Option (ByteArray × Int)) (g21 : (List (Int × (Int × (Int × (ByteArray × Unit))))) → Option (ByteArray × Int)) (g22 : Int → Int → Int → ByteArray → Option (ByteArray × Int)) (s0 : ByteArray → Int → ByteArray → Int → Bool → Option Bool) (a0 : List (Int × (Int × (Int × (ByteArray × Unit))))) : evAt (env_transomlaw05_KeycodePuts g8 g18 g19 g20 g21 g22 s0) [] [0] [.v (.one (.d (.sl (.pair (.int .i64) (.pair (.int .i64) (.pair (.int .u64) (.pair .str .unit))))) a0))] [] some = transomlaw05_KeycodePuts.c g8 g18 g19 g20 g21 g22 s0 a0 (fun r => some ⟨.v (.one (.d .bool r)), []⟩) := by
  kernel_rfl
theorem transomlaw05_KeycodePuts.s0_ev (g8 : Option Bool) (g18 : Int → Int → Int → ByteArray → Option (ByteArray × Int)) (g19 : (List (Int × (Int × (Int × (ByteArray × Unit))))) → Option Int) (g20 : (List (Int × (Int × (Int × (ByteArray × Unit))))) → Option (ByteArray × Int)) (g21 : (List (Int × (Int × (Int × (ByteArray × Unit))))) → Option (ByteArray × Int)) (g22 : Int → Int → Int → ByteArray → Option (ByteArray × Int)) (s0 : ByteArray → Int → ByteArray → Int → Bool → Option Bool) (x0 : ByteArray) (x1 : Int) (x2 : ByteArray) (x3 : Int) (x4 : Bool) : evAt (env_transomlaw05_KeycodePuts g8 g18 g19 g20 g21 g22 s0) [1, 1, 1, 2, 1, 0, 1, 1, 1, 1] [3, 4, 5, 6, 49] [.v (.one (.d .str x0)), .v (.one (.d (.int .i64) x1)), .v (.one (.d .str x2)), .v (.one (.d (.int .i64) x3)), .v (.one (.d .bool x4))] [] some = transomlaw05_KeycodePuts.s0c g8 g18 g19 g20 g21 g22 s0 x0 x1 x2 x3 x4 (fun r => some ⟨.v (.one (.d .bool r)), []⟩) := by
  kernel_rfl
def transomlaw05_KeycodePuts.s0 : Nat → ByteArray → Int → ByteArray → Int → Bool → Option Bool
  | 0, _, _, _, _, _ => none
  | k + 1, x0, x1, x2, x3, x4 => transomlaw05_KeycodePuts.s0c (transomlaw05_awake.f k) (keycode_Put.f k) (transomlaw05_Few.f k) (keycode_Row.f k) (transomref05_Row.f k) (transomref05_Put.f k) (transomlaw05_KeycodePuts.s0 k) x0 x1 x2 x3 x4 some
def transomlaw05_KeycodePuts.f (k : Nat) (a0 : List (Int × (Int × (Int × (ByteArray × Unit))))) : Option Bool := transomlaw05_KeycodePuts.c (transomlaw05_awake.f k) (keycode_Put.f k) (transomlaw05_Few.f k) (keycode_Row.f k) (transomref05_Row.f k) (transomref05_Put.f k) (transomlaw05_KeycodePuts.s0 k) a0 some
theorem transomlaw05_KeycodePuts.is (g8 : Option Bool) (g18 : Int → Int → Int → ByteArray → Option (ByteArray × Int)) (g19 : (List (Int × (Int × (Int × (ByteArray × Unit))))) → Option Int) (g20 : (List (Int × (Int × (Int × (ByteArray × Unit))))) → Option (ByteArray × Int)) (g21 : (List (Int × (Int × (Int × (ByteArray × Unit))))) → Option (ByteArray × Int)) (g22 : Int → Int → Int → ByteArray → Option (ByteArray × Int)) (s0 : ByteArray → Int → ByteArray → Int → Bool → Option Bool) : FnIs (env_transomlaw05_KeycodePuts g8 g18 g19 g20 g21 g22 s0) 6 Go.Proofs.Try.f6 := ⟨Go.Proofs.Try.func6, rfl, rfl, rfl, by decide⟩
theorem transomlaw05_KeycodePuts.envok (g8 : Option Bool) (g18 : Int → Int → Int → ByteArray → Option (ByteArray × Int)) (g19 : (List (Int × (Int × (Int × (ByteArray × Unit))))) → Option Int) (g20 : (List (Int × (Int × (Int × (ByteArray × Unit))))) → Option (ByteArray × Int)) (g21 : (List (Int × (Int × (Int × (ByteArray × Unit))))) → Option (ByteArray × Int)) (g22 : Int → Int → Int → ByteArray → Option (ByteArray × Int)) (s0 : ByteArray → Int → ByteArray → Int → Bool → Option Bool) (h8 : CtOK Go.Proofs.Try.prog 8 (ct_transomlaw05_awake g8)) (h18 : CtOK Go.Proofs.Try.prog 18 (ct_keycode_Put g18)) (h19 : CtOK Go.Proofs.Try.prog 19 (ct_transomlaw05_Few g19)) (h20 : CtOK Go.Proofs.Try.prog 20 (ct_keycode_Row g20)) (h21 : CtOK Go.Proofs.Try.prog 21 (ct_transomref05_Row g21)) (h22 : CtOK Go.Proofs.Try.prog 22 (ct_transomref05_Put g22)) : EnvOK (env_transomlaw05_KeycodePuts g8 g18 g19 g20 g21 g22 s0).toEnv := by
  intro f c h
  simp only [env_transomlaw05_KeycodePuts] at h
  split at h
  · rename_i e; subst e; cases h; exact h8
  split at h
  · rename_i e; subst e; cases h; exact h18
  split at h
  · rename_i e; subst e; cases h; exact h19
  split at h
  · rename_i e; subst e; cases h; exact h20
  split at h
  · rename_i e; subst e; cases h; exact h21
  split at h
  · rename_i e; subst e; cases h; exact h22
  simp at h
theorem transomlaw05_KeycodePuts.segs_ok : ∀ k, ∀ s ∈ (env_transomlaw05_KeycodePuts (transomlaw05_awake.f k) (keycode_Put.f k) (transomlaw05_Few.f k) (keycode_Row.f k) (transomref05_Row.f k) (transomref05_Put.f k) (transomlaw05_KeycodePuts.s0 k)).segs, SegOK (env_transomlaw05_KeycodePuts (transomlaw05_awake.f k) (keycode_Put.f k) (transomlaw05_Few.f k) (keycode_Row.f k) (transomref05_Row.f k) (transomref05_Put.f k) (transomlaw05_KeycodePuts.s0 k)) Go.Proofs.Try.f6 s
  | 0 => by
    intro s hs
    simp only [env_transomlaw05_KeycodePuts, List.mem_cons, List.not_mem_nil, or_false] at hs
    rcases hs with rfl
    · intro tvs blks res h; exfalso; simp only [seg_transomlaw05_KeycodePuts_0] at h; split at h <;> simp [transomlaw05_KeycodePuts.s0] at h
  | k + 1 => by
    have ih := transomlaw05_KeycodePuts.segs_ok k
    intro s hs
    simp only [env_transomlaw05_KeycodePuts, List.mem_cons, List.not_mem_nil, or_false] at hs
    rcases hs with rfl
    · refine seg_of_ev (E := env_transomlaw05_KeycodePuts (transomlaw05_awake.f k) (keycode_Put.f k) (transomlaw05_Few.f k) (keycode_Row.f k) (transomref05_Row.f k) (transomref05_Put.f k) (transomlaw05_KeycodePuts.s0 k)) (transomlaw05_KeycodePuts.envok _ _ _ _ _ _ _  (transomlaw05_awake.ok k) (keycode_Put.ok k) (transomlaw05_Few.ok k) (keycode_Row.ok k) (transomref05_Row.ok k) (transomref05_Put.ok k)) ⟨(transomlaw05_KeycodePuts.is (transomlaw05_awake.f k) (keycode_Put.f k) (transomlaw05_Few.f k) (keycode_Row.f k) (transomref05_Row.f k) (transomref05_Put.f k) (transomlaw05_KeycodePuts.s0 k)).rvs⟩ ih ?_
      intro tvs blks res h
      simp only [seg_transomlaw05_KeycodePuts_0] at h
      split at h
      · refine (transomlaw05_KeycodePuts.s0_ev (transomlaw05_awake.f k) (keycode_Put.f k) (transomlaw05_Few.f k) (keycode_Row.f k) (transomref05_Row.f k) (transomref05_Put.f k) (transomlaw05_KeycodePuts.s0 k) _ _ _ _ _ ).trans ?_
        rw [transomlaw05_KeycodePuts.s0c_bind]
        exact h
      · simp at h
theorem transomlaw05_KeycodePuts.ok (k : Nat) : CtOK Go.Proofs.Try.prog 6 (ct_transomlaw05_KeycodePuts (transomlaw05_KeycodePuts.f k)) := by
  refine ct_of_ev (E := env_transomlaw05_KeycodePuts (transomlaw05_awake.f k) (keycode_Put.f k) (transomlaw05_Few.f k) (keycode_Row.f k) (transomref05_Row.f k) (transomref05_Put.f k) (transomlaw05_KeycodePuts.s0 k)) (transomlaw05_KeycodePuts.is _ _ _ _ _ _ _ ) (transomlaw05_KeycodePuts.envok _ _ _ _ _ _ _  (transomlaw05_awake.ok k) (keycode_Put.ok k) (transomlaw05_Few.ok k) (keycode_Row.ok k) (transomref05_Row.ok k) (transomref05_Put.ok k)) (transomlaw05_KeycodePuts.segs_ok k) rfl ?_
  intro tvs blks res h
  simp only [ct_transomlaw05_KeycodePuts] at h
  split at h
  · refine (transomlaw05_KeycodePuts.ev (transomlaw05_awake.f k) (keycode_Put.f k) (transomlaw05_Few.f k) (keycode_Row.f k) (transomref05_Row.f k) (transomref05_Put.f k) (transomlaw05_KeycodePuts.s0 k) _ ).trans ?_
    rw [transomlaw05_KeycodePuts.c_bind]
    exact h
  · simp at h
end Go.Proofs.Ytpcojbnoadnknaa.Aev
