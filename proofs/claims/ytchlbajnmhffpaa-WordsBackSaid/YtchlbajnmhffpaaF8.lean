/- By a program of this session (AEV): functions of the program as plain functions, and that the machine does what they say. -/
import Derived.Test.YtchlbajnmhffpaaAevW
import Derived.Test.YtchlbajnmhffpaaProg
import Derived.Laws.Externs
import Derived.Lib.Bytealg
namespace Go.Proofs.Ytchlbajnmhffpaa.Aev
set_option linter.unusedVariables false
set_option linter.unusedSimpArgs false
set_option maxRecDepth 100000
set_option maxHeartbeats 4000000
open Go
/-! ### transomref01_Texts: function 10 -/
def ct_transomref01_Texts (g : (List ByteArray) → (List ByteArray) → Option Bool) : Ct where
  nin := 0
  mv := []
  F := fun tvs blks {β} K => match tvs, blks with
    | [.v (.one (.d (.sl .str) a0)), .v (.one (.d (.sl .str) a1))], [] => (g a0 a1).bind fun r => K ⟨.v (.one (.d .bool r)), []⟩
    | _, _ => none
  legit := fun tvs blks K r h => by
    split at h
    · obtain ⟨x, hx, hk⟩ := Option.bind_eq_some_iff.1 h
      refine ⟨_, ?_, hk⟩
      simp only [hx, Option.bind_some]
    · simp at h
def seg_transomref01_Texts_0 (g : (List ByteArray) → (List ByteArray) → Int → Option Bool) : Seg where
  path := [4, 1, 0, 1, 1]
  prep := []
  keep := [0, 1, 5]
  F := fun tvs blks {β} K => match tvs, blks with
    | [.v (.one (.d (.sl .str) x0)), .v (.one (.d (.sl .str) x1)), .v (.one (.d (.int .i64) x2))], [] => (g x0 x1 x2).bind fun r => K ⟨.v (.one (.d .bool r)), []⟩
    | _, _ => none
  legit := fun tvs blks K r h => by
    split at h
    · obtain ⟨x, hx, hk⟩ := Option.bind_eq_some_iff.1 h
      refine ⟨_, ?_, hk⟩
      simp only [hx, Option.bind_some]
    · simp at h
noncomputable def env_transomref01_Texts  (s0 : (List ByteArray) → (List ByteArray) → Int → Option Bool) : FEnv := { P := Go.Proofs.Try.prog, ct := fun m => none, N := 26, body := Go.Proofs.Try.f10.body.getD .skip, rvs := [.tmp 4], rts := [4], nin := 0, rmv := [], segs := [seg_transomref01_Texts_0 s0] }
def transomref01_Texts.c {β : Type}  (s0 : (List ByteArray) → (List ByteArray) → Int → Option Bool) (a0 : List ByteArray) (a1 : List ByteArray) (ret : Bool → Option β) : Option β := (bif (((List.length a0) : Int) != ((List.length a1) : Int)) then (ret (false)) else ((s0 a0 a1 (0 : Int)).bind ret))
def transomref01_Texts.s0c {β : Type}  (s0 : (List ByteArray) → (List ByteArray) → Int → Option Bool) (x0 : List ByteArray) (x1 : List ByteArray) (x2 : Int) (ret : Bool → Option β) : Option β := (bif (decide (x2 < ((List.length x0) : Int))) then (bif ((decide ((0 : Int) ≤ x2)) && (decide (x2 < ((List.length x0) : Int)))) then (bif ((decide ((0 : Int) ≤ x2)) && (decide (x2 < ((List.length x1) : Int)))) then (bif (!((ByteArray.toList (elem Ty.str x0 x2)) == (ByteArray.toList (elem Ty.str x1 x2)))) then (ret (false)) else ((s0 x0 x1 (IntKind.wrap IntKind.i64 (x2 + (1 : Int)))).bind ret)) else none) else none) else (ret (true)))
theorem transomref01_Texts.c_bind {β : Type}  (s0 : (List ByteArray) → (List ByteArray) → Int → Option Bool) (a0 : List ByteArray) (a1 : List ByteArray) (ret : Bool → Option β) : transomref01_Texts.c  s0 a0 a1 ret = (transomref01_Texts.c  s0 a0 a1 some).bind ret := by
  simp only [transomref01_Texts.c, bif_bind, sum_bind, Option.bind_assoc, Option.bind_some, Option.bind_none, Option.bind_fun_some]
theorem transomref01_Texts.s0c_bind {β : Type}  (s0 : (List ByteArray) → (List ByteArray) → Int → Option Bool) (x0 : List ByteArray) (x1 : List ByteArray) (x2 : Int) (ret : Bool → Option β) : transomref01_Texts.s0c  s0 x0 x1 x2 ret = (transomref01_Texts.s0c  s0 x0 x1 x2 some).bind ret := by
  simp only [transomref01_Texts.s0c, bif_bind, sum_bind, Option.bind_assoc, Option.bind_some, Option.bind_none, Option.bind_fun_some]
theorem transomref01_Texts.ev  (s0 : (List ByteArray) → (List ByteArray) → Int → Option Bool) (a0 : List ByteArray) (a1 : List ByteArray) : evAt (env_transomref01_Texts  s0) [] [0, 1] [.v (.one (.d (.sl .str) a0)), .v (.one (.d (.sl .str) a1))] [] some = transomref01_Texts.c  s0 a0 a1 (fun r => some ⟨.v (.one (.d .bool r)), []⟩) := by
  kernel_rfl
theorem transomref01_Texts.s0_ev  (s0 : (List ByteArray) → (List ByteArray) → Int → Option Bool) (x0 : List ByteArray) (x1 : List ByteArray) (x2 : Int) : evAt (env_transomref01_Texts  s0) [4, 1, 0, 1, 1] [0, 1, 5] [.v (.one (.d (.sl .str) x0)), .v (.one (.d (.sl .str) x1)), .v (.one (.d (.int .i64) x2))] [] some = transomref01_Texts.s0c  s0 x0 x1 x2 (fun r => some ⟨.v (.one (.d .bool r)), []⟩) := by
  kernel_rfl
def transomref01_Texts.s0 : Nat → (List ByteArray) → (List ByteArray) → Int → Option Bool
  | 0, _, _, _ => none
  | k + 1, x0, x1, x2 => transomref01_Texts.s0c  (transomref01_Texts.s0 k) x0 x1 x2 some
def transomref01_Texts.f (k : Nat) (a0 : List ByteArray) (a1 : List ByteArray) : Option Bool := transomref01_Texts.c  (transomref01_Texts.s0 k) a0 a1 some
theorem transomref01_Texts.is  (s0 : (List ByteArray) → (List ByteArray) → Int → Option Bool) : FnIs (env_transomref01_Texts  s0) 10 Go.Proofs.Try.f10 := ⟨Go.Proofs.Try.func10, rfl, rfl, rfl, by decide⟩
theorem transomref01_Texts.envok  (s0 : (List ByteArray) → (List ByteArray) → Int → Option Bool)  : EnvOK (env_transomref01_Texts  s0).toEnv := by
  intro f c h
  simp only [env_transomref01_Texts] at h
  simp at h
theorem transomref01_Texts.segs_ok : ∀ k, ∀ s ∈ (env_transomref01_Texts  (transomref01_Texts.s0 k)).segs, SegOK (env_transomref01_Texts  (transomref01_Texts.s0 k)) Go.Proofs.Try.f10 s
  | 0 => by
    intro s hs
    simp only [env_transomref01_Texts, List.mem_cons, List.not_mem_nil, or_false] at hs
    rcases hs with rfl
    · intro tvs blks res h; exfalso; simp only [seg_transomref01_Texts_0] at h; split at h <;> simp [transomref01_Texts.s0] at h
  | k + 1 => by
    have ih := transomref01_Texts.segs_ok k
    intro s hs
    simp only [env_transomref01_Texts, List.mem_cons, List.not_mem_nil, or_false] at hs
    rcases hs with rfl
    · refine seg_of_ev (E := env_transomref01_Texts  (transomref01_Texts.s0 k)) (transomref01_Texts.envok _  ) ⟨(transomref01_Texts.is  (transomref01_Texts.s0 k)).rvs⟩ ih ?_
      intro tvs blks res h
      simp only [seg_transomref01_Texts_0] at h
      split at h
      · refine (transomref01_Texts.s0_ev  (transomref01_Texts.s0 k) _ _ _ ).trans ?_
        rw [transomref01_Texts.s0c_bind]
        exact h
      · simp at h
theorem transomref01_Texts.ok (k : Nat) : CtOK Go.Proofs.Try.prog 10 (ct_transomref01_Texts (transomref01_Texts.f k)) := by
  refine ct_of_ev (E := env_transomref01_Texts  (transomref01_Texts.s0 k)) (transomref01_Texts.is _ ) (transomref01_Texts.envok _  ) (transomref01_Texts.segs_ok k) rfl ?_
  intro tvs blks res h
  simp only [ct_transomref01_Texts] at h
  split at h
  · refine (transomref01_Texts.ev  (transomref01_Texts.s0 k) _ _ ).trans ?_
    rw [transomref01_Texts.c_bind]
    exact h
  · simp at h
end Go.Proofs.Ytchlbajnmhffpaa.Aev
