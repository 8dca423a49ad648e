/- By a program of this session (AEV): functions of the program as plain functions, and that the machine does what they say. -/
import Derived.Test.YtpcojbnoadnknaaAevW
import Derived.Test.YtpcojbnoadnknaaProg
import Derived.Laws.Externs
import Derived.Lib.Bytealg
namespace Go.Proofs.Ytpcojbnoadnknaa.Aev
set_option linter.unusedVariables false
set_option linter.unusedSimpArgs false
set_option maxRecDepth 100000
set_option maxHeartbeats 4000000
open Go
/-! ### transomref05_After: function 16 -/
def ct_transomref05_After (g : ByteArray → Option ByteArray) : Ct where
  nin := 0
  mv := []
  F := fun tvs blks {β} K => match tvs, blks with
    | [.v (.one (.d .str a0))], [] => (g a0).bind fun r => K ⟨.v (.one (.d .str r)), []⟩
    | _, _ => none
  legit := fun tvs blks K r h => by
    split at h
    · obtain ⟨x, hx, hk⟩ := Option.bind_eq_some_iff.1 h
      refine ⟨_, ?_, hk⟩
      simp only [hx, Option.bind_some]
    · simp at h
def seg_transomref05_After_0 (g : ByteArray → Int → Option ByteArray) : Seg where
  path := [4, 1, 0, 1]
  prep := []
  keep := [0, 3]
  F := fun tvs blks {β} K => match tvs, blks with
    | [.v (.one (.d .str x0)), .v (.one (.d (.int .i64) x1))], [] => (g x0 x1).bind fun r => K ⟨.v (.one (.d .str r)), []⟩
    | _, _ => none
  legit := fun tvs blks K r h => by
    split at h
    · obtain ⟨x, hx, hk⟩ := Option.bind_eq_some_iff.1 h
      refine ⟨_, ?_, hk⟩
      simp only [hx, Option.bind_some]
    · simp at h
noncomputable def env_transomref05_After  (s0 : ByteArray → Int → Option ByteArray) : FEnv := { P := Go.Proofs.Try.prog, ct := fun m => none, N := 25, body := Go.Proofs.Try.f16.body.getD .skip, rvs := [.tmp 2], rts := [9], nin := 0, rmv := [], segs := [seg_transomref05_After_0 s0] }
def transomref05_After.c {β : Type}  (s0 : ByteArray → Int → Option ByteArray) (a0 : ByteArray) (ret : ByteArray → Option β) : Option β := ((s0 a0 (IntKind.wrap IntKind.i64 (((ByteArray.size a0) : Int) - (1 : Int)))).bind ret)
def transomref05_After.s0c {β : Type}  (s0 : ByteArray → Int → Option ByteArray) (x0 : ByteArray) (x1 : Int) (ret : ByteArray → Option β) : Option β := (bif (decide (x1 ≥ (0 : Int))) then (bif ((decide ((0 : Int) ≤ x1)) && (decide (x1 < ((ByteArray.size x0) : Int)))) then (bif (decide ((bt x0 x1) < (255 : Int))) then (bif ((true && (decide ((0 : Int) ≤ x1))) && (decide (x1 ≤ ((ByteArray.size x0) : Int)))) then (bif ((decide ((0 : Int) ≤ x1)) && (decide (x1 < ((ByteArray.size x0) : Int)))) then (bif ((decide ((ByteArray.size (ByteArray.extract x0 (0 : Nat) (Int.toNat x1))) ≤ (4611686018427387903 : Nat))) && true) then (ret ((ByteArray.extract x0 (0 : Nat) (Int.toNat x1)) ++ (ByteArray.mk (List.toArray (List.map (fun n => (UInt8.ofNat (Int.toNat n))) [(IntKind.wrap IntKind.u8 ((bt x0 x1) + (1 : Int)))]))))) else none) else none) else none) else ((s0 x0 (IntKind.wrap IntKind.i64 (x1 - (1 : Int)))).bind ret)) else none) else (ret (ByteArray.mk (List.toArray []))))
theorem transomref05_After.c_bind {β : Type}  (s0 : ByteArray → Int → Option ByteArray) (a0 : ByteArray) (ret : ByteArray → Option β) : transomref05_After.c  s0 a0 ret = (transomref05_After.c  s0 a0 some).bind ret := by
  simp only [transomref05_After.c, bif_bind, Option.bind_assoc, Option.bind_some, Option.bind_none, Option.bind_fun_some]
theorem transomref05_After.s0c_bind {β : Type}  (s0 : ByteArray → Int → Option ByteArray) (x0 : ByteArray) (x1 : Int) (ret : ByteArray → Option β) : transomref05_After.s0c  s0 x0 x1 ret = (transomref05_After.s0c  s0 x0 x1 some).bind ret := by
  simp only [transomref05_After.s0c, bif_bind, Option.bind_assoc, Option.bind_some, Option.bind_none, Option.bind_fun_some]
theorem transomref05_After.ev  (s0 : ByteArray → Int → Option ByteArray) (a0 : ByteArray) : evAt (env_transomref05_After  s0) [] [0] [.v (.one (.d .str a0))] [] some = transomref05_After.c  s0 a0 (fun r => some ⟨.v (.one (.d .str r)), []⟩) := by
  kernel_rfl
theorem transomref05_After.s0_ev  (s0 : ByteArray → Int → Option ByteArray) (x0 : ByteArray) (x1 : Int) : evAt (env_transomref05_After  s0) [4, 1, 0, 1] [0, 3] [.v (.one (.d .str x0)), .v (.one (.d (.int .i64) x1))] [] some = transomref05_After.s0c  s0 x0 x1 (fun r => some ⟨.v (.one (.d .str r)), []⟩) := by
  kernel_rfl
def transomref05_After.s0 : Nat → ByteArray → Int → Option ByteArray
  | 0, _, _ => none
  | k + 1, x0, x1 => transomref05_After.s0c  (transomref05_After.s0 k) x0 x1 some
def transomref05_After.f (k : Nat) (a0 : ByteArray) : Option ByteArray := transomref05_After.c  (transomref05_After.s0 k) a0 some
theorem transomref05_After.is  (s0 : ByteArray → Int → Option ByteArray) : FnIs (env_transomref05_After  s0) 16 Go.Proofs.Try.f16 := ⟨Go.Proofs.Try.func16, rfl, rfl, rfl, by decide⟩
theorem transomref05_After.envok  (s0 : ByteArray → Int → Option ByteArray)  : EnvOK (env_transomref05_After  s0).toEnv := by
  intro f c h
  simp only [env_transomref05_After] at h
  simp at h
theorem transomref05_After.segs_ok : ∀ k, ∀ s ∈ (env_transomref05_After  (transomref05_After.s0 k)).segs, SegOK (env_transomref05_After  (transomref05_After.s0 k)) Go.Proofs.Try.f16 s
  | 0 => by
    intro s hs
    simp only [env_transomref05_After, List.mem_cons, List.not_mem_nil, or_false] at hs
    rcases hs with rfl
    · intro tvs blks res h; exfalso; simp only [seg_transomref05_After_0] at h; split at h <;> simp [transomref05_After.s0] at h
  | k + 1 => by
    have ih := transomref05_After.segs_ok k
    intro s hs
    simp only [env_transomref05_After, List.mem_cons, List.not_mem_nil, or_false] at hs
    rcases hs with rfl
    · refine seg_of_ev (E := env_transomref05_After  (transomref05_After.s0 k)) (transomref05_After.envok _  ) ⟨(transomref05_After.is  (transomref05_After.s0 k)).rvs⟩ ih ?_
      intro tvs blks res h
      simp only [seg_transomref05_After_0] at h
      split at h
      · refine (transomref05_After.s0_ev  (transomref05_After.s0 k) _ _ ).trans ?_
        rw [transomref05_After.s0c_bind]
        exact h
      · simp at h
theorem transomref05_After.ok (k : Nat) : CtOK Go.Proofs.Try.prog 16 (ct_transomref05_After (transomref05_After.f k)) := by
  refine ct_of_ev (E := env_transomref05_After  (transomref05_After.s0 k)) (transomref05_After.is _ ) (transomref05_After.envok _  ) (transomref05_After.segs_ok k) rfl ?_
  intro tvs blks res h
  simp only [ct_transomref05_After] at h
  split at h
  · refine (transomref05_After.ev  (transomref05_After.s0 k) _ ).trans ?_
    rw [transomref05_After.c_bind]
    exact h
  · simp at h
end Go.Proofs.Ytpcojbnoadnknaa.Aev
