/- By a program of this session (AEV): functions of the program as plain functions, and that the machine does what they say. -/
import Derived.Test.YtndkobhclggeiaaAevW
import Derived.Test.YtndkobhclggeiaaProg
import Derived.Laws.Externs
import Derived.Lib.Bytealg
import Derived.Test.YtndkobhclggeiaaF6
namespace Go.Proofs.Ytndkobhclggeiaa.Aev
set_option linter.unusedVariables false
set_option linter.unusedSimpArgs false
set_option maxRecDepth 100000
set_option maxHeartbeats 4000000
open Go
/-! ### transomref02_Equal: function 19 -/
def ct_transomref02_Equal (g : Int → Int → Option Bool) : Ct where
  nin := 0
  mv := []
  F := fun tvs blks {β} K => match tvs, blks with
    | [.v (.one (.d (.int .u64) a0)), .v (.one (.d (.int .u64) a1))], [] => (g a0 a1).bind fun r => K ⟨.v (.one (.d .bool r)), []⟩
    | _, _ => none
  legit := fun tvs blks K r h => by
    split at h
    · obtain ⟨x, hx, hk⟩ := Option.bind_eq_some_iff.1 h
      refine ⟨_, ?_, hk⟩
      simp only [hx, Option.bind_some]
    · simp at h
def seg_transomref02_Equal_0 (g : Int → Int → Bool → Option Bool) : Seg where
  path := [1, 0, 1]
  prep := []
  keep := [0, 1, 12]
  F := fun tvs blks {β} K => match tvs, blks with
    | [.v (.one (.d (.int .u64) x0)), .v (.one (.d (.int .u64) x1)), .v (.one (.d .bool x2))], [] => (g x0 x1 x2).bind fun r => K ⟨.v (.one (.d .bool r)), []⟩
    | _, _ => none
  legit := fun tvs blks K r h => by
    split at h
    · obtain ⟨x, hx, hk⟩ := Option.bind_eq_some_iff.1 h
      refine ⟨_, ?_, hk⟩
      simp only [hx, Option.bind_some]
    · simp at h
def seg_transomref02_Equal_1 (g : Int → Int → Option Bool) : Seg where
  path := [1, 1]
  prep := []
  keep := [0, 1]
  F := fun tvs blks {β} K => match tvs, blks with
    | [.v (.one (.d (.int .u64) x0)), .v (.one (.d (.int .u64) x1))], [] => (g x0 x1).bind fun r => K ⟨.v (.one (.d .bool r)), []⟩
    | _, _ => none
  legit := fun tvs blks K r h => by
    split at h
    · obtain ⟨x, hx, hk⟩ := Option.bind_eq_some_iff.1 h
      refine ⟨_, ?_, hk⟩
      simp only [hx, Option.bind_some]
    · simp at h
noncomputable def env_transomref02_Equal (g37 : Int → Option Int) (s0 : Int → Int → Bool → Option Bool) (s1 : Int → Int → Option Bool) : FEnv := { P := Go.Proofs.Try.prog, ct := fun m => if m = 37 then some (ct_transomref02_Class g37) else none, N := 26, body := Go.Proofs.Try.f19.body.getD .skip, rvs := [.tmp 4], rts := [4], nin := 0, rmv := [], segs := [seg_transomref02_Equal_0 s0, seg_transomref02_Equal_1 s1] }
def transomref02_Equal.c {β : Type} (g37 : Int → Option Int) (s0 : Int → Int → Bool → Option Bool) (s1 : Int → Int → Option Bool) (a0 : Int) (a1 : Int) (ret : Bool → Option β) : Option β := ((g37 a0).bind fun r0 => (bif (r0 == (1 : Int)) then ((s0 a0 a1 true).bind ret) else ((g37 a1).bind fun r1 => ((s0 a0 a1 (r1 == (1 : Int))).bind ret))))
def transomref02_Equal.s0c {β : Type} (g37 : Int → Option Int) (s0 : Int → Int → Bool → Option Bool) (s1 : Int → Int → Option Bool) (x0 : Int) (x1 : Int) (x2 : Bool) (ret : Bool → Option β) : Option β := (bif x2 then (ret (false)) else ((s1 x0 x1).bind ret))
def transomref02_Equal.s1c {β : Type} (g37 : Int → Option Int) (s0 : Int → Int → Bool → Option Bool) (s1 : Int → Int → Option Bool) (x0 : Int) (x1 : Int) (ret : Bool → Option β) : Option β := (bif (x0 == x1) then (ret (true)) else ((g37 x0).bind fun r0 => (bif (r0 == (3 : Int)) then ((g37 x1).bind fun r1 => (ret ((r1 == (3 : Int))))) else (ret (false)))))
theorem transomref02_Equal.c_bind {β : Type} (g37 : Int → Option Int) (s0 : Int → Int → Bool → Option Bool) (s1 : Int → Int → Option Bool) (a0 : Int) (a1 : Int) (ret : Bool → Option β) : transomref02_Equal.c g37 s0 s1 a0 a1 ret = (transomref02_Equal.c g37 s0 s1 a0 a1 some).bind ret := by
  simp only [transomref02_Equal.c, bif_bind, sum_bind, Option.bind_assoc, Option.bind_some, Option.bind_none, Option.bind_fun_some]
theorem transomref02_Equal.s0c_bind {β : Type} (g37 : Int → Option Int) (s0 : Int → Int → Bool → Option Bool) (s1 : Int → Int → Option Bool) (x0 : Int) (x1 : Int) (x2 : Bool) (ret : Bool → Option β) : transomref02_Equal.s0c g37 s0 s1 x0 x1 x2 ret = (transomref02_Equal.s0c g37 s0 s1 x0 x1 x2 some).bind ret := by
  simp only [transomref02_Equal.s0c, bif_bind, sum_bind, Option.bind_assoc, Option.bind_some, Option.bind_none, Option.bind_fun_some]
theorem transomref02_Equal.s1c_bind {β : Type} (g37 : Int → Option Int) (s0 : Int → Int → Bool → Option Bool) (s1 : Int → Int → Option Bool) (x0 : Int) (x1 : Int) (ret : Bool → Option β) : transomref02_Equal.s1c g37 s0 s1 x0 x1 ret = (transomref02_Equal.s1c g37 s0 s1 x0 x1 some).bind ret := by
  simp only [transomref02_Equal.s1c, bif_bind, sum_bind, Option.bind_assoc, Option.bind_some, Option.bind_none, Option.bind_fun_some]
theorem transomref02_Equal.ev (g37 : Int → Option Int) (s0 : Int → Int → Bool → Option Bool) (s1 : Int → Int → Option Bool) (a0 : Int) (a1 : Int) : evAt (env_transomref02_Equal g37 s0 s1) [] [0, 1] [.v (.one (.d (.int .u64) a0)), .v (.one (.d (.int .u64) a1))] [] some = transomref02_Equal.c g37 s0 s1 a0 a1 (fun r => some ⟨.v (.one (.d .bool r)), []⟩) := by
  kernel_rfl
theorem transomref02_Equal.s0_ev (g37 : Int → Option Int) (s0 : Int → Int → Bool → Option Bool) (s1 : Int → Int → Option Bool) (x0 : Int) (x1 : Int) (x2 : Bool) : evAt (env_transomref02_Equal g37 s0 s1) [1, 0, 1] [0, 1, 12] [.v (.one (.d (.int .u64) x0)), .v (.one (.d (.int .u64) x1)), .v (.one (.d .bool x2))] [] some = transomref02_Equal.s0c g37 s0 s1 x0 x1 x2 (fun r => some ⟨.v (.one (.d .bool r)), []⟩) := by
  kernel_rfl
theorem transomref02_Equal.s1_ev (g37 : Int → Option Int) (s0 : Int → Int → Bool → Option Bool) (s1 : Int → Int → Option Bool) (x0 : Int) (x1 : Int) : evAt (env_transomref02_Equal g37 s0 s1) [1, 1] [0, 1] [.v (.one (.d (.int .u64) x0)), .v (.one (.d (.int .u64) x1))] [] some = transomref02_Equal.s1c g37 s0 s1 x0 x1 (fun r => some ⟨.v (.one (.d .bool r)), []⟩) := by
  kernel_rfl
mutual
def transomref02_Equal.s0 : Nat → Int → Int → Bool → Option Bool
  | 0, _, _, _ => none
  | k + 1, x0, x1, x2 => transomref02_Equal.s0c (transomref02_Class.f k) (transomref02_Equal.s0 k) (transomref02_Equal.s1 k) x0 x1 x2 some
def transomref02_Equal.s1 : Nat → Int → Int → Option Bool
  | 0, _, _ => none
  | k + 1, x0, x1 => transomref02_Equal.s1c (transomref02_Class.f k) (transomref02_Equal.s0 k) (transomref02_Equal.s1 k) x0 x1 some
end
def transomref02_Equal.f (k : Nat) (a0 : Int) (a1 : Int) : Option Bool := transomref02_Equal.c (transomref02_Class.f k) (transomref02_Equal.s0 k) (transomref02_Equal.s1 k) a0 a1 some
theorem transomref02_Equal.is (g37 : Int → Option Int) (s0 : Int → Int → Bool → Option Bool) (s1 : Int → Int → Option Bool) : FnIs (env_transomref02_Equal g37 s0 s1) 19 Go.Proofs.Try.f19 := ⟨Go.Proofs.Try.func19, rfl, rfl, rfl, by decide⟩
theorem transomref02_Equal.envok (g37 : Int → Option Int) (s0 : Int → Int → Bool → Option Bool) (s1 : Int → Int → Option Bool) (h37 : CtOK Go.Proofs.Try.prog 37 (ct_transomref02_Class g37)) : EnvOK (env_transomref02_Equal g37 s0 s1).toEnv := by
  intro f c h
  simp only [env_transomref02_Equal] at h
  split at h
  · rename_i e; subst e; cases h; exact h37
  simp at h
theorem transomref02_Equal.segs_ok : ∀ k, ∀ s ∈ (env_transomref02_Equal (transomref02_Class.f k) (transomref02_Equal.s0 k) (transomref02_Equal.s1 k)).segs, SegOK (env_transomref02_Equal (transomref02_Class.f k) (transomref02_Equal.s0 k) (transomref02_Equal.s1 k)) Go.Proofs.Try.f19 s
  | 0 => by
    intro s hs
    simp only [env_transomref02_Equal, List.mem_cons, List.not_mem_nil, or_false] at hs
    rcases hs with rfl | rfl
    · intro tvs blks res h; exfalso; simp only [seg_transomref02_Equal_0] at h; split at h <;> simp [transomref02_Equal.s0] at h
    · intro tvs blks res h; exfalso; simp only [seg_transomref02_Equal_1] at h; split at h <;> simp [transomref02_Equal.s1] at h
  | k + 1 => by
    have ih := transomref02_Equal.segs_ok k
    intro s hs
    simp only [env_transomref02_Equal, List.mem_cons, List.not_mem_nil, or_false] at hs
    rcases hs with rfl | rfl
    · refine seg_of_ev (E := env_transomref02_Equal (transomref02_Class.f k) (transomref02_Equal.s0 k) (transomref02_Equal.s1 k)) (transomref02_Equal.envok _ _ _  (transomref02_Class.ok k)) ⟨(transomref02_Equal.is (transomref02_Class.f k) (transomref02_Equal.s0 k) (transomref02_Equal.s1 k)).rvs⟩ ih ?_
      intro tvs blks res h
      simp only [seg_transomref02_Equal_0] at h
      split at h
      · refine (transomref02_Equal.s0_ev (transomref02_Class.f k) (transomref02_Equal.s0 k) (transomref02_Equal.s1 k) _ _ _ ).trans ?_
        rw [transomref02_Equal.s0c_bind]
        exact h
      · simp at h
    · refine seg_of_ev (E := env_transomref02_Equal (transomref02_Class.f k) (transomref02_Equal.s0 k) (transomref02_Equal.s1 k)) (transomref02_Equal.envok _ _ _  (transomref02_Class.ok k)) ⟨(transomref02_Equal.is (transomref02_Class.f k) (transomref02_Equal.s0 k) (transomref02_Equal.s1 k)).rvs⟩ ih ?_
      intro tvs blks res h
      simp only [seg_transomref02_Equal_1] at h
      split at h
      · refine (transomref02_Equal.s1_ev (transomref02_Class.f k) (transomref02_Equal.s0 k) (transomref02_Equal.s1 k) _ _ ).trans ?_
        rw [transomref02_Equal.s1c_bind]
        exact h
      · simp at h
theorem transomref02_Equal.ok (k : Nat) : CtOK Go.Proofs.Try.prog 19 (ct_transomref02_Equal (transomref02_Equal.f k)) := by
  refine ct_of_ev (E := env_transomref02_Equal (transomref02_Class.f k) (transomref02_Equal.s0 k) (transomref02_Equal.s1 k)) (transomref02_Equal.is _ _ _ ) (transomref02_Equal.envok _ _ _  (transomref02_Class.ok k)) (transomref02_Equal.segs_ok k) rfl ?_
  intro tvs blks res h
  simp only [ct_transomref02_Equal] at h
  split at h
  · refine (transomref02_Equal.ev (transomref02_Class.f k) (transomref02_Equal.s0 k) (transomref02_Equal.s1 k) _ _ ).trans ?_
    rw [transomref02_Equal.c_bind]
    exact h
  · simp at h
end Go.Proofs.Ytndkobhclggeiaa.Aev
