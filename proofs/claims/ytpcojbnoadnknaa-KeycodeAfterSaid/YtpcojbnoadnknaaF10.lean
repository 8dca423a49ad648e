/- By a program of this session (AEV): functions of the program as plain functions, and that the machine does what they say. -/
import Derived.Test.YtpcojbnoadnknaaAevW
import Derived.Test.YtpcojbnoadnknaaProg
import Derived.Laws.Externs
import Derived.Lib.Bytealg
import Derived.Test.YtpcojbnoadnknaaF2
import Derived.Test.YtpcojbnoadnknaaF3
import Derived.Test.YtpcojbnoadnknaaF9
namespace Go.Proofs.Ytpcojbnoadnknaa.Aev
set_option linter.unusedVariables false
set_option linter.unusedSimpArgs false
set_option maxRecDepth 100000
set_option maxHeartbeats 4000000
open Go
/-! ### transomlaw05_KeycodeAfter: function 4 -/
def ct_transomlaw05_KeycodeAfter (g : ByteArray → ByteArray → Option Bool) : Ct where
  nin := 0
  mv := []
  F := fun tvs blks {β} K => match tvs, blks with
    | [.v (.one (.d .str a0)), .v (.one (.d .str a1))], [] => (g a0 a1).bind fun r => K ⟨.v (.one (.d .bool r)), []⟩
    | _, _ => none
  legit := fun tvs blks K r h => by
    split at h
    · obtain ⟨x, hx, hk⟩ := Option.bind_eq_some_iff.1 h
      refine ⟨_, ?_, hk⟩
      simp only [hx, Option.bind_some]
    · simp at h
def seg_transomlaw05_KeycodeAfter_0 (g : ByteArray → ByteArray → Bool → Option Bool) : Seg where
  path := [1, 0, 1]
  prep := []
  keep := [0, 1, 14]
  F := fun tvs blks {β} K => match tvs, blks with
    | [.v (.one (.d .str x0)), .v (.one (.d .str x1)), .v (.one (.d .bool x2))], [] => (g x0 x1 x2).bind fun r => K ⟨.v (.one (.d .bool r)), []⟩
    | _, _ => none
  legit := fun tvs blks K r h => by
    split at h
    · obtain ⟨x, hx, hk⟩ := Option.bind_eq_some_iff.1 h
      refine ⟨_, ?_, hk⟩
      simp only [hx, Option.bind_some]
    · simp at h
def seg_transomlaw05_KeycodeAfter_1 (g : ByteArray → ByteArray → Option Bool) : Seg where
  path := [1, 1]
  prep := []
  keep := [0, 1]
  F := fun tvs blks {β} K => match tvs, blks with
    | [.v (.one (.d .str x0)), .v (.one (.d .str x1))], [] => (g x0 x1).bind fun r => K ⟨.v (.one (.d .bool r)), []⟩
    | _, _ => none
  legit := fun tvs blks K r h => by
    split at h
    · obtain ⟨x, hx, hk⟩ := Option.bind_eq_some_iff.1 h
      refine ⟨_, ?_, hk⟩
      simp only [hx, Option.bind_some]
    · simp at h
def seg_transomlaw05_KeycodeAfter_2 (g : ByteArray → ByteArray → ByteArray → Bool → Option Bool) : Seg where
  path := [1, 1, 1, 1, 1, 1]
  prep := []
  keep := [0, 1, 5, 6]
  F := fun tvs blks {β} K => match tvs, blks with
    | [.v (.one (.d .str x0)), .v (.one (.d .str x1)), .v (.one (.d .str x2)), .v (.one (.d .bool x3))], [] => (g x0 x1 x2 x3).bind fun r => K ⟨.v (.one (.d .bool r)), []⟩
    | _, _ => none
  legit := fun tvs blks K r h => by
    split at h
    · obtain ⟨x, hx, hk⟩ := Option.bind_eq_some_iff.1 h
      refine ⟨_, ?_, hk⟩
      simp only [hx, Option.bind_some]
    · simp at h
noncomputable def env_transomlaw05_KeycodeAfter (g8 : Option Bool) (g15 : ByteArray → Option ByteArray) (g16 : ByteArray → Option ByteArray) (s0 : ByteArray → ByteArray → Bool → Option Bool) (s1 : ByteArray → ByteArray → Option Bool) (s2 : ByteArray → ByteArray → ByteArray → Bool → Option Bool) : FEnv := { P := Go.Proofs.Try.prog, ct := fun m => if m = 8 then some (ct_transomlaw05_awake g8) else if m = 15 then some (ct_keycode_After g15) else if m = 16 then some (ct_transomref05_After g16) else none, N := 51, body := Go.Proofs.Try.f4.body.getD .skip, rvs := [.tmp 4], rts := [4], nin := 0, rmv := [], segs := [seg_transomlaw05_KeycodeAfter_0 s0, seg_transomlaw05_KeycodeAfter_1 s1, seg_transomlaw05_KeycodeAfter_2 s2] }
def transomlaw05_KeycodeAfter.c {β : Type} (g8 : Option Bool) (g15 : ByteArray → Option ByteArray) (g16 : ByteArray → Option ByteArray) (s0 : ByteArray → ByteArray → Bool → Option Bool) (s1 : ByteArray → ByteArray → Option Bool) (s2 : ByteArray → ByteArray → ByteArray → Bool → Option Bool) (a0 : ByteArray) (a1 : ByteArray) (ret : Bool → Option β) : Option β := (bif (decide (((ByteArray.size a0) : Int) > (2000 : Int))) then ((s0 a0 a1 true).bind ret) else ((s0 a0 a1 (bif false then true else (decide (((ByteArray.size a1) : Int) > (2000 : Int))))).bind ret))
def transomlaw05_KeycodeAfter.s0c {β : Type} (g8 : Option Bool) (g15 : ByteArray → Option ByteArray) (g16 : ByteArray → Option ByteArray) (s0 : ByteArray → ByteArray → Bool → Option Bool) (s1 : ByteArray → ByteArray → Option Bool) (s2 : ByteArray → ByteArray → ByteArray → Bool → Option Bool) (x0 : ByteArray) (x1 : ByteArray) (x2 : Bool) (ret : Bool → Option β) : Option β := (bif x2 then (g8.bind fun r0 => (ret r0)) else ((s1 x0 x1).bind ret))
def transomlaw05_KeycodeAfter.s1c {β : Type} (g8 : Option Bool) (g15 : ByteArray → Option ByteArray) (g16 : ByteArray → Option ByteArray) (s0 : ByteArray → ByteArray → Bool → Option Bool) (s1 : ByteArray → ByteArray → Option Bool) (s2 : ByteArray → ByteArray → ByteArray → Bool → Option Bool) (x0 : ByteArray) (x1 : ByteArray) (ret : Bool → Option β) : Option β := ((g15 x0).bind fun r0 => ((g16 x0).bind fun r1 => (bif (!((ByteArray.toList r0) == (ByteArray.toList r1))) then (ret false) else (bif ((ByteArray.toList r0) == (ByteArray.toList (ByteArray.mk (List.toArray [])))) then (g8.bind fun r2 => (ret r2)) else (bif (decide (((ByteArray.size x1) : Int) ≥ ((ByteArray.size x0) : Int))) then (bif (true && (decide (((ByteArray.size x0) : Int) ≤ ((ByteArray.size x1) : Int)))) then ((s2 x0 x1 r0 (bif true then ((ByteArray.toList (ByteArray.extract x1 (0 : Nat) (Int.toNat ((ByteArray.size x0) : Int)))) == (ByteArray.toList x0)) else false)).bind ret) else none) else ((s2 x0 x1 r0 false).bind ret))))))
def transomlaw05_KeycodeAfter.s2c {β : Type} (g8 : Option Bool) (g15 : ByteArray → Option ByteArray) (g16 : ByteArray → Option ByteArray) (s0 : ByteArray → ByteArray → Bool → Option Bool) (s1 : ByteArray → ByteArray → Option Bool) (s2 : ByteArray → ByteArray → ByteArray → Bool → Option Bool) (x0 : ByteArray) (x1 : ByteArray) (x2 : ByteArray) (x3 : Bool) (ret : Bool → Option β) : Option β := (bif (!(Op.bytesLess (ByteArray.toList x1) (ByteArray.toList x0))) then (bif (x3 == (bif true then (Op.bytesLess (ByteArray.toList x1) (ByteArray.toList x2)) else false)) then (g8.bind fun r0 => (ret (bif true then r0 else false))) else (ret false)) else (bif (x3 == false) then (g8.bind fun r1 => (ret (bif true then r1 else false))) else (ret false)))
theorem transomlaw05_KeycodeAfter.c_bind {β : Type} (g8 : Option Bool) (g15 : ByteArray → Option ByteArray) (g16 : ByteArray → Option ByteArray) (s0 : ByteArray → ByteArray → Bool → Option Bool) (s1 : ByteArray → ByteArray → Option Bool) (s2 : ByteArray → ByteArray → ByteArray → Bool → Option Bool) (a0 : ByteArray) (a1 : ByteArray) (ret : Bool → Option β) : transomlaw05_KeycodeAfter.c g8 g15 g16 s0 s1 s2 a0 a1 ret = (transomlaw05_KeycodeAfter.c g8 g15 g16 s0 s1 s2 a0 a1 some).bind ret := by
  simp only [transomlaw05_KeycodeAfter.c, bif_bind, Option.bind_assoc, Option.bind_some, Option.bind_none, Option.bind_fun_some]
theorem transomlaw05_KeycodeAfter.s0c_bind {β : Type} (g8 : Option Bool) (g15 : ByteArray → Option ByteArray) (g16 : ByteArray → Option ByteArray) (s0 : ByteArray → ByteArray → Bool → Option Bool) (s1 : ByteArray → ByteArray → Option Bool) (s2 : ByteArray → ByteArray → ByteArray → Bool → Option Bool) (x0 : ByteArray) (x1 : ByteArray) (x2 : Bool) (ret : Bool → Option β) : transomlaw05_KeycodeAfter.s0c g8 g15 g16 s0 s1 s2 x0 x1 x2 ret = (transomlaw05_KeycodeAfter.s0c g8 g15 g16 s0 s1 s2 x0 x1 x2 some).bind ret := by
  simp only [transomlaw05_KeycodeAfter.s0c, bif_bind, Option.bind_assoc, Option.bind_some, Option.bind_none, Option.bind_fun_some]
theorem transomlaw05_KeycodeAfter.s1c_bind {β : Type} (g8 : Option Bool) (g15 : ByteArray → Option ByteArray) (g16 : ByteArray → Option ByteArray) (s0 : ByteArray → ByteArray → Bool → Option Bool) (s1 : ByteArray → ByteArray → Option Bool) (s2 : ByteArray → ByteArray → ByteArray → Bool → Option Bool) (x0 : ByteArray) (x1 : ByteArray) (ret : Bool → Option β) : transomlaw05_KeycodeAfter.s1c g8 g15 g16 s0 s1 s2 x0 x1 ret = (transomlaw05_KeycodeAfter.s1c g8 g15 g16 s0 s1 s2 x0 x1 some).bind ret := by
  simp only [transomlaw05_KeycodeAfter.s1c, bif_bind, Option.bind_assoc, Option.bind_some, Option.bind_none, Option.bind_fun_some]
theorem transomlaw05_KeycodeAfter.s2c_bind {β : Type} (g8 : Option Bool) (g15 : ByteArray → Option ByteArray) (g16 : ByteArray → Option ByteArray) (s0 : ByteArray → ByteArray → Bool → Option Bool) (s1 : ByteArray → ByteArray → Option Bool) (s2 : ByteArray → ByteArray → ByteArray → Bool → Option Bool) (x0 : ByteArray) (x1 : ByteArray) (x2 : ByteArray) (x3 : Bool) (ret : Bool → Option β) : transomlaw05_KeycodeAfter.s2c g8 g15 g16 s0 s1 s2 x0 x1 x2 x3 ret = (transomlaw05_KeycodeAfter.s2c g8 g15 g16 s0 s1 s2 x0 x1 x2 x3 some).bind ret := by
  simp only [transomlaw05_KeycodeAfter.s2c, bif_bind, Option.bind_assoc, Option.bind_some, Option.bind_none, Option.bind_fun_some]
theorem transomlaw05_KeycodeAfter.ev (g8 : Option Bool) (g15 : ByteArray → Option ByteArray) (g16 : ByteArray → Option ByteArray) (s0 : ByteArray → ByteArray → Bool → Option Bool) (s1 : ByteArray → ByteArray → Option Bool) (s2 : ByteArray → ByteArray → ByteArray → Bool → Option Bool) (a0 : ByteArray) (a1 : ByteArray) : evAt (env_transomlaw05_KeycodeAfter g8 g15 g16 s0 s1 s2) [] [0, 1] [.v (.one (.d .str a0)), .v (.one (.d .str a1))] [] some = transomlaw05_KeycodeAfter.c g8 g15 g16 s0 s1 s2 a0 a1 (fun r => some ⟨.v (.one (.d .bool r)), []⟩) := by
  kernel_rfl
theorem transomlaw05_KeycodeAfter.s0_ev (g8 : Option Bool) (g15 : ByteArray → Option ByteArray) (g16 : ByteArray → Option ByteArray) (s0 : ByteArray → ByteArray → Bool → Option Bool) (s1 : ByteArray → ByteArray → Option Bool) (s2 : ByteArray → ByteArray → ByteArray → Bool → Option Bool) (x0 : ByteArray) (x1 : ByteArray) (x2 : Bool) : evAt (env_transomlaw05_KeycodeAfter g8 g15 g16 s0 s1 s2) [1, 0, 1] [0, 1, 14] [.v (.one (.d .str x0)), .v (.one (.d .str x1)), .v (.one (.d .bool x2))] [] some = transomlaw05_KeycodeAfter.s0c g8 g15 g16 s0 s1 s2 x0 x1 x2 (fun r => some ⟨.v (.one (.d .bool r)), []⟩) := by
  kernel_rfl
theorem transomlaw05_KeycodeAfter.s1_ev (g8 : Option Bool) (g15 : ByteArray → Option ByteArray) (g16 : ByteArray → Option ByteArray) (s0 : ByteArray → ByteArray → Bool → Option Bool) (s1 : ByteArray → ByteArray → Option Bool) (s2 : ByteArray → ByteArray → ByteArray → Bool → Option Bool) (x0 : ByteArray) (x1 : ByteArray) : evAt (env_transomlaw05_KeycodeAfter g8 g15 g16 s0 s1 s2) [1, 1] [0, 1] [.v (.one (.d .str x0)), .v (.one (.d .str x1))] [] some = transomlaw05_KeycodeAfter.s1c g8 g15 g16 s0 s1 s2 x0 x1 (fun r => some ⟨.v (.one (.d .bool r)), []⟩) := by
  kernel_rfl
theorem transomlaw05_KeycodeAfter.s2_ev (g8 : Option Bool) (g15 : ByteArray → Option ByteArray) (g16 : ByteArray → Option ByteArray) (s0 : ByteArray → ByteArray → Bool → Option Bool) (s1 : ByteArray → ByteArray → Option Bool) (s2 : ByteArray → ByteArray → ByteArray → Bool → Option Bool) (x0 : ByteArray) (x1 : ByteArray) (x2 : ByteArray) (x3 : Bool) : evAt (env_transomlaw05_KeycodeAfter g8 g15 g16 s0 s1 s2) [1, 1, 1, 1, 1, 1] [0, 1, 5, 6] [.v (.one (.d .str x0)), .v (.one (.d .str x1)), .v (.one (.d .str x2)), .v (.one (.d .bool x3))] [] some = transomlaw05_KeycodeAfter.s2c g8 g15 g16 s0 s1 s2 x0 x1 x2 x3 (fun r => some ⟨.v (.one (.d .bool r)), []⟩) := by
  kernel_rfl
mutual
def transomlaw05_KeycodeAfter.s0 : Nat → ByteArray → ByteArray → Bool → Option Bool
  | 0, _, _, _ => none
  | k + 1, x0, x1, x2 => transomlaw05_KeycodeAfter.s0c (transomlaw05_awake.f k) (keycode_After.f k) (transomref05_After.f k) (transomlaw05_KeycodeAfter.s0 k) (transomlaw05_KeycodeAfter.s1 k) (transomlaw05_KeycodeAfter.s2 k) x0 x1 x2 some
def transomlaw05_KeycodeAfter.s1 : Nat → ByteArray → ByteArray → Option Bool
  | 0, _, _ => none
  | k + 1, x0, x1 => transomlaw05_KeycodeAfter.s1c (transomlaw05_awake.f k) (keycode_After.f k) (transomref05_After.f k) (transomlaw05_KeycodeAfter.s0 k) (transomlaw05_KeycodeAfter.s1 k) (transomlaw05_KeycodeAfter.s2 k) x0 x1 some
def transomlaw05_KeycodeAfter.s2 : Nat → ByteArray → ByteArray → ByteArray → Bool → Option Bool
  | 0, _, _, _, _ => none
  | k + 1, x0, x1, x2, x3 => transomlaw05_KeycodeAfter.s2c (transomlaw05_awake.f k) (keycode_After.f k) (transomref05_After.f k) (transomlaw05_KeycodeAfter.s0 k) (transomlaw05_KeycodeAfter.s1 k) (transomlaw05_KeycodeAfter.s2 k) x0 x1 x2 x3 some
end
def transomlaw05_KeycodeAfter.f (k : Nat) (a0 : ByteArray) (a1 : ByteArray) : Option Bool := transomlaw05_KeycodeAfter.c (transomlaw05_awake.f k) (keycode_After.f k) (transomref05_After.f k) (transomlaw05_KeycodeAfter.s0 k) (transomlaw05_KeycodeAfter.s1 k) (transomlaw05_KeycodeAfter.s2 k) a0 a1 some
theorem transomlaw05_KeycodeAfter.is (g8 : Option Bool) (g15 : ByteArray → Option ByteArray) (g16 : ByteArray → Option ByteArray) (s0 : ByteArray → ByteArray → Bool → Option Bool) (s1 : ByteArray → ByteArray → Option Bool) (s2 : ByteArray → ByteArray → ByteArray → Bool → Option Bool) : FnIs (env_transomlaw05_KeycodeAfter g8 g15 g16 s0 s1 s2) 4 Go.Proofs.Try.f4 := ⟨Go.Proofs.Try.func4, rfl, rfl, rfl, by decide⟩
theorem transomlaw05_KeycodeAfter.envok (g8 : Option Bool) (g15 : ByteArray → Option ByteArray) (g16 : ByteArray → Option ByteArray) (s0 : ByteArray → ByteArray → Bool → Option Bool) (s1 : ByteArray → ByteArray → Option Bool) (s2 : ByteArray → ByteArray → ByteArray → Bool → Option Bool) (h8 : CtOK Go.Proofs.Try.prog 8 (ct_transomlaw05_awake g8)) (h15 : CtOK Go.Proofs.Try.prog 15 (ct_keycode_After g15)) (h16 : CtOK Go.Proofs.Try.prog 16 (ct_transomref05_After g16)) : EnvOK (env_transomlaw05_KeycodeAfter g8 g15 g16 s0 s1 s2).toEnv := by
  intro f c h
  simp only [env_transomlaw05_KeycodeAfter] at h
  split at h
  · rename_i e; subst e; cases h; exact h8
  split at h
  · rename_i e; subst e; cases h; exact h15
  split at h
  · rename_i e; subst e; cases h; exact h16
  simp at h
theorem transomlaw05_KeycodeAfter.segs_ok : ∀ k, ∀ s ∈ (env_transomlaw05_KeycodeAfter (transomlaw05_awake.f k) (keycode_After.f k) (transomref05_After.f k) (transomlaw05_KeycodeAfter.s0 k) (transomlaw05_KeycodeAfter.s1 k) (transomlaw05_KeycodeAfter.s2 k)).segs, SegOK (env_transomlaw05_KeycodeAfter (transomlaw05_awake.f k) (keycode_After.f k) (transomref05_After.f k) (transomlaw05_KeycodeAfter.s0 k) (transomlaw05_KeycodeAfter.s1 k) (transomlaw05_KeycodeAfter.s2 k)) Go.Proofs.Try.f4 s
  | 0 => by
    intro s hs
    simp only [env_transomlaw05_KeycodeAfter, List.mem_cons, List.not_mem_nil, or_false] at hs
    rcases hs with rfl | rfl | rfl
    · intro tvs blks res h; exfalso; simp only [seg_transomlaw05_KeycodeAfter_0] at h; split at h <;> simp [transomlaw05_KeycodeAfter.s0] at h
    · intro tvs blks res h; exfalso; simp only [seg_transomlaw05_KeycodeAfter_1] at h; split at h <;> simp [transomlaw05_KeycodeAfter.s1] at h
    · intro tvs blks res h; exfalso; simp only [seg_transomlaw05_KeycodeAfter_2] at h; split at h <;> simp [transomlaw05_KeycodeAfter.s2] at h
  | k + 1 => by
    have ih := transomlaw05_KeycodeAfter.segs_ok k
    intro s hs
    simp only [env_transomlaw05_KeycodeAfter, List.mem_cons, List.not_mem_nil, or_false] at hs
    rcases hs with rfl | rfl | rfl
    · refine seg_of_ev (E := env_transomlaw05_KeycodeAfter (transomlaw05_awake.f k) (keycode_After.f k) (transomref05_After.f k) (transomlaw05_KeycodeAfter.s0 k) (transomlaw05_KeycodeAfter.s1 k) (transomlaw05_KeycodeAfter.s2 k)) (transomlaw05_KeycodeAfter.envok _ _ _ _ _ _  (transomlaw05_awake.ok k) (keycode_After.ok k) (transomref05_After.ok k)) ⟨(transomlaw05_KeycodeAfter.is (transomlaw05_awake.f k) (keycode_After.f k) (transomref05_After.f k) (transomlaw05_KeycodeAfter.s0 k) (transomlaw05_KeycodeAfter.s1 k) (transomlaw05_KeycodeAfter.s2 k)).rvs⟩ ih ?_
      intro tvs blks res h
      simp only [seg_transomlaw05_KeycodeAfter_0] at h
      split at h
      · refine (transomlaw05_KeycodeAfter.s0_ev (transomlaw05_awake.f k) (keycode_After.f k) (transomref05_After.f k) (transomlaw05_KeycodeAfter.s0 k) (transomlaw05_KeycodeAfter.s1 k) (transomlaw05_KeycodeAfter.s2 k) _ _ _ ).trans ?_
        rw [transomlaw05_KeycodeAfter.s0c_bind]
        exact h
      · simp at h
    · refine seg_of_ev (E := env_transomlaw05_KeycodeAfter (transomlaw05_awake.f k) (keycode_After.f k) (transomref05_After.f k) (transomlaw05_KeycodeAfter.s0 k) (transomlaw05_KeycodeAfter.s1 k) (transomlaw05_KeycodeAfter.s2 k)) (transomlaw05_KeycodeAfter.envok _ _ _ _ _ _  (transomlaw05_awake.ok k) (keycode_After.ok k) (transomref05_After.ok k)) ⟨(transomlaw05_KeycodeAfter.is (transomlaw05_awake.f k) (keycode_After.f k) (transomref05_After.f k) (transomlaw05_KeycodeAfter.s0 k) (transomlaw05_KeycodeAfter.s1 k) (transomlaw05_KeycodeAfter.s2 k)).rvs⟩ ih ?_
      intro tvs blks res h
      simp only [seg_transomlaw05_KeycodeAfter_1] at h
      split at h
      · refine (transomlaw05_KeycodeAfter.s1_ev (transomlaw05_awake.f k) (keycode_After.f k) (transomref05_After.f k) (transomlaw05_KeycodeAfter.s0 k) (transomlaw05_KeycodeAfter.s1 k) (transomlaw05_KeycodeAfter.s2 k) _ _ ).trans ?_
        rw [transomlaw05_KeycodeAfter.s1c_bind]
        exact h
      · simp at h
    · refine seg_of_ev (E := env_transomlaw05_KeycodeAfter (transomlaw05_awake.f k) (keycode_After.f k) (transomref05_After.f k) (transomlaw05_KeycodeAfter.s0 k) (transomlaw05_KeycodeAfter.s1 k) (transomlaw05_KeycodeAfter.s2 k)) (transomlaw05_KeycodeAfter.envok _ _ _ _ _ _  (transomlaw05_awake.ok k) (keycode_After.ok k) (transomref05_After.ok k)) ⟨(transomlaw05_KeycodeAfter.is (transomlaw05_awake.f k) (keycode_After.f k) (transomref05_After.f k) (transomlaw05_KeycodeAfter.s0 k) (transomlaw05_KeycodeAfter.s1 k) (transomlaw05_KeycodeAfter.s2 k)).rvs⟩ ih ?_
      intro tvs blks res h
      simp only [seg_transomlaw05_KeycodeAfter_2] at h
      split at h
      · refine (transomlaw05_KeycodeAfter.s2_ev (transomlaw05_awake.f k) (keycode_After.f k) (transomref05_After.f k) (transomlaw05_KeycodeAfter.s0 k) (transomlaw05_KeycodeAfter.s1 k) (transomlaw05_KeycodeAfter.s2 k) _ _ _ _ ).trans ?_
        rw [transomlaw05_KeycodeAfter.s2c_bind]
        exact h
      · simp at h
theorem transomlaw05_KeycodeAfter.ok (k : Nat) : CtOK Go.Proofs.Try.prog 4 (ct_transomlaw05_KeycodeAfter (transomlaw05_KeycodeAfter.f k)) := by
  refine ct_of_ev (E := env_transomlaw05_KeycodeAfter (transomlaw05_awake.f k) (keycode_After.f k) (transomref05_After.f k) (transomlaw05_KeycodeAfter.s0 k) (transomlaw05_KeycodeAfter.s1 k) (transomlaw05_KeycodeAfter.s2 k)) (transomlaw05_KeycodeAfter.is _ _ _ _ _ _ ) (transomlaw05_KeycodeAfter.envok _ _ _ _ _ _  (transomlaw05_awake.ok k) (keycode_After.ok k) (transomref05_After.ok k)) (transomlaw05_KeycodeAfter.segs_ok k) rfl ?_
  intro tvs blks res h
  simp only [ct_transomlaw05_KeycodeAfter] at h
  split at h
  · refine (transomlaw05_KeycodeAfter.ev (transomlaw05_awake.f k) (keycode_After.f k) (transomref05_After.f k) (transomlaw05_KeycodeAfter.s0 k) (transomlaw05_KeycodeAfter.s1 k) (transomlaw05_KeycodeAfter.s2 k) _ _ ).trans ?_
    rw [transomlaw05_KeycodeAfter.c_bind]
    exact h
  · simp at h
end Go.Proofs.Ytpcojbnoadnknaa.Aev
