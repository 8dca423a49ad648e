/- By a program of this session (AEV): functions of the program as plain functions, and that the machine does what they say. -/
import Derived.Test.YtchlbajnmhffpaaAevW
import Derived.Test.YtchlbajnmhffpaaProg
import Derived.Laws.Externs
import Derived.Lib.Bytealg
import Derived.Test.YtchlbajnmhffpaaF0
import Derived.Test.YtchlbajnmhffpaaF6
import Derived.Test.YtchlbajnmhffpaaF7
import Derived.Test.YtchlbajnmhffpaaF8
namespace Go.Proofs.Ytchlbajnmhffpaa.Aev
set_option linter.unusedVariables false
set_option linter.unusedSimpArgs false
set_option maxRecDepth 100000
set_option maxHeartbeats 4000000
open Go
/-! ### transomlaw36_WordsSplits: function 3 -/
def ct_transomlaw36_WordsSplits (g : ByteArray → Option Bool) : Ct where
  nin := 0
  mv := []
  F := fun tvs blks {β} K => match tvs, blks with
    | [.v (.one (.d .str a0))], [] => (g a0).bind fun r => K ⟨.v (.one (.d .bool r)), []⟩
    | _, _ => none
  legit := fun tvs blks K r h => by
    split at h
    · obtain ⟨x, hx, hk⟩ := Option.bind_eq_some_iff.1 h
      refine ⟨_, ?_, hk⟩
      simp only [hx, Option.bind_some]
    · simp at h
noncomputable def env_transomlaw36_WordsSplits (g7 : Option Bool) (g8 : ByteArray → Option ((List ByteArray) × Int)) (g9 : ByteArray → Option ((List ByteArray) × Int)) (g10 : (List ByteArray) → (List ByteArray) → Option Bool)  : FEnv := { P := Go.Proofs.Try.prog, ct := fun m => if m = 7 then some (ct_transomlaw36_awake g7) else if m = 8 then some (ct_words_Split g8) else if m = 9 then some (ct_transomref36_Split g9) else if m = 10 then some (ct_transomref01_Texts g10) else none, N := 32, body := Go.Proofs.Try.f3.body.getD .skip, rvs := [.tmp 2], rts := [4], nin := 0, rmv := [], segs := [] }
def transomlaw36_WordsSplits.c {β : Type} (g7 : Option Bool) (g8 : ByteArray → Option ((List ByteArray) × Int)) (g9 : ByteArray → Option ((List ByteArray) × Int)) (g10 : (List ByteArray) → (List ByteArray) → Option Bool)  (a0 : ByteArray) (ret : Bool → Option β) : Option β := (bif (decide (((ByteArray.size a0) : Int) > (3000 : Int))) then (g7.bind fun r0 => (ret (r0))) else ((g8 a0).bind fun r1 => ((g9 a0).bind fun r2 => ((g10 r1.1 r2.1).bind fun r3 => (bif r3 then (bif (r1.2 == r2.2) then (g7.bind fun r4 => (ret (r4))) else (ret (false))) else (ret (false)))))))
theorem transomlaw36_WordsSplits.c_bind {β : Type} (g7 : Option Bool) (g8 : ByteArray → Option ((List ByteArray) × Int)) (g9 : ByteArray → Option ((List ByteArray) × Int)) (g10 : (List ByteArray) → (List ByteArray) → Option Bool)  (a0 : ByteArray) (ret : Bool → Option β) : transomlaw36_WordsSplits.c g7 g8 g9 g10  a0 ret = (transomlaw36_WordsSplits.c g7 g8 g9 g10  a0 some).bind ret := by
  simp only [transomlaw36_WordsSplits.c, bif_bind, sum_bind, Option.bind_assoc, Option.bind_some, Option.bind_none, Option.bind_fun_some]
theorem transomlaw36_WordsSplits.ev (g7 : Option Bool) (g8 : ByteArray → Option ((List ByteArray) × Int)) (g9 : ByteArray → Option ((List ByteArray) × Int)) (g10 : (List ByteArray) → (List ByteArray) → Option Bool)  (a0 : ByteArray) : evAt (env_transomlaw36_WordsSplits g7 g8 g9 g10 ) [] [0] [.v (.one (.d .str a0))] [] some = transomlaw36_WordsSplits.c g7 g8 g9 g10  a0 (fun r => some ⟨.v (.one (.d .bool r)), []⟩) := by
  kernel_rfl
def transomlaw36_WordsSplits.f (k : Nat) (a0 : ByteArray) : Option Bool := transomlaw36_WordsSplits.c (transomlaw36_awake.f k) (words_Split.f k) (transomref36_Split.f k) (transomref01_Texts.f k)  a0 some
theorem transomlaw36_WordsSplits.is (g7 : Option Bool) (g8 : ByteArray → Option ((List ByteArray) × Int)) (g9 : ByteArray → Option ((List ByteArray) × Int)) (g10 : (List ByteArray) → (List ByteArray) → Option Bool)  : FnIs (env_transomlaw36_WordsSplits g7 g8 g9 g10 ) 3 Go.Proofs.Try.f3 := ⟨Go.Proofs.Try.func3, rfl, rfl, rfl, by decide⟩
theorem transomlaw36_WordsSplits.envok (g7 : Option Bool) (g8 : ByteArray → Option ((List ByteArray) × Int)) (g9 : ByteArray → Option ((List ByteArray) × Int)) (g10 : (List ByteArray) → (List ByteArray) → Option Bool)  (h7 : CtOK Go.Proofs.Try.prog 7 (ct_transomlaw36_awake g7)) (h8 : CtOK Go.Proofs.Try.prog 8 (ct_words_Split g8)) (h9 : CtOK Go.Proofs.Try.prog 9 (ct_transomref36_Split g9)) (h10 : CtOK Go.Proofs.Try.prog 10 (ct_transomref01_Texts g10)) : EnvOK (env_transomlaw36_WordsSplits g7 g8 g9 g10 ).toEnv := by
  intro f c h
  simp only [env_transomlaw36_WordsSplits] at h
  split at h
  · rename_i e; subst e; cases h; exact h7
  split at h
  · rename_i e; subst e; cases h; exact h8
  split at h
  · rename_i e; subst e; cases h; exact h9
  split at h
  · rename_i e; subst e; cases h; exact h10
  simp at h
theorem transomlaw36_WordsSplits.ok (k : Nat) : CtOK Go.Proofs.Try.prog 3 (ct_transomlaw36_WordsSplits (transomlaw36_WordsSplits.f k)) := by
  refine ct_of_ev (E := env_transomlaw36_WordsSplits (transomlaw36_awake.f k) (words_Split.f k) (transomref36_Split.f k) (transomref01_Texts.f k) ) (transomlaw36_WordsSplits.is _ _ _ _ ) (transomlaw36_WordsSplits.envok _ _ _ _  (transomlaw36_awake.ok k) (words_Split.ok k) (transomref36_Split.ok k) (transomref01_Texts.ok k)) (fun s hs => by simp [env_transomlaw36_WordsSplits] at hs) rfl ?_
  intro tvs blks res h
  simp only [ct_transomlaw36_WordsSplits] at h
  split at h
  · refine (transomlaw36_WordsSplits.ev (transomlaw36_awake.f k) (words_Split.f k) (transomref36_Split.f k) (transomref01_Texts.f k)  _ ).trans ?_
    rw [transomlaw36_WordsSplits.c_bind]
    exact h
  · simp at h
end Go.Proofs.Ytchlbajnmhffpaa.Aev
