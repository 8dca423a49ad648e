/- By a program of this session (AEV): functions of the program as plain functions, and that the machine does what they say. -/
import Derived.Test.YtndkobhclggeiaaAevW
import Derived.Test.YtndkobhclggeiaaProg
import Derived.Laws.Externs
import Derived.Lib.Bytealg
import Derived.Test.YtndkobhclggeiaaF0
import Derived.Test.YtndkobhclggeiaaF1
import Derived.Test.YtndkobhclggeiaaF5
import Derived.Test.YtndkobhclggeiaaF13
namespace Go.Proofs.Ytndkobhclggeiaa.Aev
set_option linter.unusedVariables false
set_option linter.unusedSimpArgs false
set_option maxRecDepth 100000
set_option maxHeartbeats 4000000
open Go
/-! ### transomlaw07_ConvertFits: function 5 -/
def ct_transomlaw07_ConvertFits (g : Int → Int → Int → ByteArray → Int → Option Bool) : Ct where
  nin := 0
  mv := []
  F := fun tvs blks {β} K => match tvs, blks with
    | [.v (.agg [(.d (.int .i64) a0), (.d (.int .i64) a1), (.d (.int .u64) a2), (.d .str a3)]), .v (.one (.d (.int .i64) a4))], [] => (g a0 a1 a2 a3 a4).bind fun r => K ⟨.v (.one (.d .bool r)), []⟩
    | _, _ => none
  legit := fun tvs blks K r h => by
    split at h
    · obtain ⟨x, hx, hk⟩ := Option.bind_eq_some_iff.1 h
      refine ⟨_, ?_, hk⟩
      simp only [hx, Option.bind_some]
    · simp at h
def seg_transomlaw07_ConvertFits_0 (g : Bool → Option Bool) : Seg where
  path := [1, 2, 1, 0, 1, 1, 1]
  prep := []
  keep := [4]
  F := fun tvs blks {β} K => match tvs, blks with
    | [.v (.one (.d .bool x0))], [] => (g x0).bind fun r => K ⟨.v (.one (.d .bool r)), []⟩
    | _, _ => none
  legit := fun tvs blks K r h => by
    split at h
    · obtain ⟨x, hx, hk⟩ := Option.bind_eq_some_iff.1 h
      refine ⟨_, ?_, hk⟩
      simp only [hx, Option.bind_some]
    · simp at h
noncomputable def env_transomlaw07_ConvertFits (g7 : Int → Int → Int → ByteArray → Option Int) (g8 : Option Bool) (g9 : Int → Int → Int → ByteArray → Int → Option (Int × Int × Int × ByteArray × Int)) (g11 : Int → Int → Int → ByteArray → Int → Int → Int → ByteArray → Option Bool) (g18 : Int → Int → Int → ByteArray → Option Int) (s0 : Bool → Option Bool) : FEnv := { P := Go.Proofs.Try.prog, ct := fun m => if m = 7 then some (ct_transomlaw04_Few g7) else if m = 8 then some (ct_transomlaw07_awake g8) else if m = 9 then some (ct_convert_To g9) else if m = 11 then some (ct_transomref04_Same g11) else if m = 18 then some (ct_values_Check g18) else none, N := 47, body := Go.Proofs.Try.f5.body.getD .skip, rvs := [.tmp 4], rts := [4], nin := 0, rmv := [], segs := [seg_transomlaw07_ConvertFits_0 s0] }
def transomlaw07_ConvertFits.c {β : Type} (g7 : Int → Int → Int → ByteArray → Option Int) (g8 : Option Bool) (g9 : Int → Int → Int → ByteArray → Int → Option (Int × Int × Int × ByteArray × Int)) (g11 : Int → Int → Int → ByteArray → Int → Int → Int → ByteArray → Option Bool) (g18 : Int → Int → Int → ByteArray → Option Int) (s0 : Bool → Option Bool) (a0 : Int) (a1 : Int) (a2 : Int) (a3 : ByteArray) (a4 : Int) (ret : Bool → Option β) : Option β := ((g7 a0 a1 a2 a3).bind fun r0 => (bif (r0 == (0 : Int)) then (g8.bind fun r1 => (ret (r1))) else ((g9 a0 a1 a2 a3 a4).bind fun r2 => (bif (r2.2.2.2.2 != (0 : Int)) then ((g11 r2.1 r2.2.1 r2.2.2.1 r2.2.2.2.1 (0 : Int) (0 : Int) (0 : Int) (ByteArray.mk (List.toArray []))).bind fun r3 => (bif r3 then (g8.bind fun r4 => ((s0 r4).bind ret)) else ((s0 false).bind ret))) else ((g18 r2.1 r2.2.1 r2.2.2.1 r2.2.2.2.1).bind fun r5 => (bif (r5 == (0 : Int)) then (bif (r2.1 == a4) then (g8.bind fun r6 => (ret (r6))) else (bif (r2.1 == (0 : Int)) then (bif (a0 == (0 : Int)) then (g8.bind fun r7 => (ret (r7))) else (ret (false))) else (ret (false)))) else (ret (false))))))))
def transomlaw07_ConvertFits.s0c {β : Type} (g7 : Int → Int → Int → ByteArray → Option Int) (g8 : Option Bool) (g9 : Int → Int → Int → ByteArray → Int → Option (Int × Int × Int × ByteArray × Int)) (g11 : Int → Int → Int → ByteArray → Int → Int → Int → ByteArray → Option Bool) (g18 : Int → Int → Int → ByteArray → Option Int) (s0 : Bool → Option Bool) (x0 : Bool) (ret : Bool → Option β) : Option β := (ret (x0))
theorem transomlaw07_ConvertFits.c_bind {β : Type} (g7 : Int → Int → Int → ByteArray → Option Int) (g8 : Option Bool) (g9 : Int → Int → Int → ByteArray → Int → Option (Int × Int × Int × ByteArray × Int)) (g11 : Int → Int → Int → ByteArray → Int → Int → Int → ByteArray → Option Bool) (g18 : Int → Int → Int → ByteArray → Option Int) (s0 : Bool → Option Bool) (a0 : Int) (a1 : Int) (a2 : Int) (a3 : ByteArray) (a4 : Int) (ret : Bool → Option β) : transomlaw07_ConvertFits.c g7 g8 g9 g11 g18 s0 a0 a1 a2 a3 a4 ret = (transomlaw07_ConvertFits.c g7 g8 g9 g11 g18 s0 a0 a1 a2 a3 a4 some).bind ret := by
  simp only [transomlaw07_ConvertFits.c, bif_bind, sum_bind, Option.bind_assoc, Option.bind_some, Option.bind_none, Option.bind_fun_some]
theorem transomlaw07_ConvertFits.s0c_bind {β : Type} (g7 : Int → Int → Int → ByteArray → Option Int) (g8 : Option Bool) (g9 : Int → Int → Int → ByteArray → Int → Option (Int × Int × Int × ByteArray × Int)) (g11 : Int → Int → Int → ByteArray → Int → Int → Int → ByteArray → Option Bool) (g18 : Int → Int → Int → ByteArray → Option Int) (s0 : Bool → Option Bool) (x0 : Bool) (ret : Bool → Option β) : transomlaw07_ConvertFits.s0c g7 g8 g9 g11 g18 s0 x0 ret = (transomlaw07_ConvertFits.s0c g7 g8 g9 g11 g18 s0 x0 some).bind ret := by
  simp only [transomlaw07_ConvertFits.s0c, bif_bind, sum_bind, Option.bind_assoc, Option.bind_some, Option.bind_none, Option.bind_fun_some]
theorem transomlaw07_ConvertFits.ev (g7 : Int → Int → Int → ByteArray → Option Int) (g8 : Option Bool) (g9 : Int → Int → Int → ByteArray → Int → Option (Int × Int × Int × ByteArray × Int)) (g11 : Int → Int → Int → ByteArray → Int → Int → Int → ByteArray → Option Bool) (g18 : Int → Int → Int → ByteArray → Option Int) (s0 : Bool → Option Bool) (a0 : Int) (a1 : Int) (a2 : Int) (a3 : ByteArray) (a4 : Int) : evAt (env_transomlaw07_ConvertFits g7 g8 g9 g11 g18 s0) [] [0, 1] [.v (.agg [(.d (.int .i64) a0), (.d (.int .i64) a1), (.d (.int .u64) a2), (.d .str a3)]), .v (.one (.d (.int .i64) a4))] [] some = transomlaw07_ConvertFits.c g7 g8 g9 g11 g18 s0 a0 a1 a2 a3 a4 (fun r => some ⟨.v (.one (.d .bool r)), []⟩) := by
  kernel_rfl
theorem transomlaw07_ConvertFits.s0_ev (g7 : Int → Int → Int → ByteArray → Option Int) (g8 : Option Bool) (g9 : Int → Int → Int → ByteArray → Int → Option (Int × Int × Int × ByteArray × Int)) (g11 : Int → Int → Int → ByteArray → Int → Int → Int → ByteArray → Option Bool) (g18 : Int → Int → Int → ByteArray → Option Int) (s0 : Bool → Option Bool) (x0 : Bool) : evAt (env_transomlaw07_ConvertFits g7 g8 g9 g11 g18 s0) [1, 2, 1, 0, 1, 1, 1] [4] [.v (.one (.d .bool x0))] [] some = transomlaw07_ConvertFits.s0c g7 g8 g9 g11 g18 s0 x0 (fun r => some ⟨.v (.one (.d .bool r)), []⟩) := by
  kernel_rfl
def transomlaw07_ConvertFits.s0 : Nat → Bool → Option Bool
  | 0, _ => none
  | k + 1, x0 => transomlaw07_ConvertFits.s0c (transomlaw04_Few.f k) (transomlaw07_awake.f k) (convert_To.f k) (transomref04_Same.f k) (values_Check.f k) (transomlaw07_ConvertFits.s0 k) x0 some
def transomlaw07_ConvertFits.f (k : Nat) (a0 : Int) (a1 : Int) (a2 : Int) (a3 : ByteArray) (a4 : Int) : Option Bool := transomlaw07_ConvertFits.c (transomlaw04_Few.f k) (transomlaw07_awake.f k) (convert_To.f k) (transomref04_Same.f k) (values_Check.f k) (transomlaw07_ConvertFits.s0 k) a0 a1 a2 a3 a4 some
theorem transomlaw07_ConvertFits.is (g7 : Int → Int → Int → ByteArray → Option Int) (g8 : Option Bool) (g9 : Int → Int → Int → ByteArray → Int → Option (Int × Int × Int × ByteArray × Int)) (g11 : Int → Int → Int → ByteArray → Int → Int → Int → ByteArray → Option Bool) (g18 : Int → Int → Int → ByteArray → Option Int) (s0 : Bool → Option Bool) : FnIs (env_transomlaw07_ConvertFits g7 g8 g9 g11 g18 s0) 5 Go.Proofs.Try.f5 := ⟨Go.Proofs.Try.func5, rfl, rfl, rfl, by decide⟩
theorem transomlaw07_ConvertFits.envok (g7 : Int → Int → Int → ByteArray → Option Int) (g8 : Option Bool) (g9 : Int → Int → Int → ByteArray → Int → Option (Int × Int × Int × ByteArray × Int)) (g11 : Int → Int → Int → ByteArray → Int → Int → Int → ByteArray → Option Bool) (g18 : Int → Int → Int → ByteArray → Option Int) (s0 : Bool → Option Bool) (h7 : CtOK Go.Proofs.Try.prog 7 (ct_transomlaw04_Few g7)) (h8 : CtOK Go.Proofs.Try.prog 8 (ct_transomlaw07_awake g8)) (h9 : CtOK Go.Proofs.Try.prog 9 (ct_convert_To g9)) (h11 : CtOK Go.Proofs.Try.prog 11 (ct_transomref04_Same g11)) (h18 : CtOK Go.Proofs.Try.prog 18 (ct_values_Check g18)) : EnvOK (env_transomlaw07_ConvertFits g7 g8 g9 g11 g18 s0).toEnv := by
  intro f c h
  simp only [env_transomlaw07_ConvertFits] at h
  split at h
  · rename_i e; subst e; cases h; exact h7
  split at h
  · rename_i e; subst e; cases h; exact h8
  split at h
  · rename_i e; subst e; cases h; exact h9
  split at h
  · rename_i e; subst e; cases h; exact h11
  split at h
  · rename_i e; subst e; cases h; exact h18
  simp at h
theorem transomlaw07_ConvertFits.segs_ok : ∀ k, ∀ s ∈ (env_transomlaw07_ConvertFits (transomlaw04_Few.f k) (transomlaw07_awake.f k) (convert_To.f k) (transomref04_Same.f k) (values_Check.f k) (transomlaw07_ConvertFits.s0 k)).segs, SegOK (env_transomlaw07_ConvertFits (transomlaw04_Few.f k) (transomlaw07_awake.f k) (convert_To.f k) (transomref04_Same.f k) (values_Check.f k) (transomlaw07_ConvertFits.s0 k)) Go.Proofs.Try.f5 s
  | 0 => by
    intro s hs
    simp only [env_transomlaw07_ConvertFits, List.mem_cons, List.not_mem_nil, or_false] at hs
    rcases hs with rfl
    · intro tvs blks res h; exfalso; simp only [seg_transomlaw07_ConvertFits_0] at h; split at h <;> simp [transomlaw07_ConvertFits.s0] at h
  | k + 1 => by
    have ih := transomlaw07_ConvertFits.segs_ok k
    intro s hs
    simp only [env_transomlaw07_ConvertFits, List.mem_cons, List.not_mem_nil, or_false] at hs
    rcases hs with rfl
    · refine seg_of_ev (E := env_transomlaw07_ConvertFits (transomlaw04_Few.f k) (transomlaw07_awake.f k) (convert_To.f k) (transomref04_Same.f k) (values_Check.f k) (transomlaw07_ConvertFits.s0 k)) (transomlaw07_ConvertFits.envok _ _ _ _ _ _  (transomlaw04_Few.ok k) (transomlaw07_awake.ok k) (convert_To.ok k) (transomref04_Same.ok k) (values_Check.ok k)) ⟨(transomlaw07_ConvertFits.is (transomlaw04_Few.f k) (transomlaw07_awake.f k) (convert_To.f k) (transomref04_Same.f k) (values_Check.f k) (transomlaw07_ConvertFits.s0 k)).rvs⟩ ih ?_
      intro tvs blks res h
      simp only [seg_transomlaw07_ConvertFits_0] at h
      split at h
      · refine (transomlaw07_ConvertFits.s0_ev (transomlaw04_Few.f k) (transomlaw07_awake.f k) (convert_To.f k) (transomref04_Same.f k) (values_Check.f k) (transomlaw07_ConvertFits.s0 k) _ ).trans ?_
        rw [transomlaw07_ConvertFits.s0c_bind]
        exact h
      · simp at h
theorem transomlaw07_ConvertFits.ok (k : Nat) : CtOK Go.Proofs.Try.prog 5 (ct_transomlaw07_ConvertFits (transomlaw07_ConvertFits.f k)) := by
  refine ct_of_ev (E := env_transomlaw07_ConvertFits (transomlaw04_Few.f k) (transomlaw07_awake.f k) (convert_To.f k) (transomref04_Same.f k) (values_Check.f k) (transomlaw07_ConvertFits.s0 k)) (transomlaw07_ConvertFits.is _ _ _ _ _ _ ) (transomlaw07_ConvertFits.envok _ _ _ _ _ _  (transomlaw04_Few.ok k) (transomlaw07_awake.ok k) (convert_To.ok k) (transomref04_Same.ok k) (values_Check.ok k)) (transomlaw07_ConvertFits.segs_ok k) rfl ?_
  intro tvs blks res h
  simp only [ct_transomlaw07_ConvertFits] at h
  split at h
  · refine (transomlaw07_ConvertFits.ev (transomlaw04_Few.f k) (transomlaw07_awake.f k) (convert_To.f k) (transomref04_Same.f k) (values_Check.f k) (transomlaw07_ConvertFits.s0 k) _ _ _ _ _ ).trans ?_
    rw [transomlaw07_ConvertFits.c_bind]
    exact h
  · simp at h
end Go.Proofs.Ytndkobhclggeiaa.Aev
