/- By a program of this session (AEV): functions of the program as plain functions, and that the machine does what they say. -/
import Derived.Test.YtndkobhclggeiaaAevW
import Derived.Test.YtndkobhclggeiaaProg
import Derived.Laws.Externs
import Derived.Lib.Bytealg
namespace Go.Proofs.Ytndkobhclggeiaa.Aev
set_option linter.unusedVariables false
set_option linter.unusedSimpArgs false
set_option maxRecDepth 100000
set_option maxHeartbeats 4000000
open Go
/-! ### transomref07_Can: function 13 -/
def ct_transomref07_Can (g : Int → Int → Option Bool) : Ct where
  nin := 0
  mv := []
  F := fun tvs blks {β} K => match tvs, blks with
    | [.v (.one (.d (.int .i64) a0)), .v (.one (.d (.int .i64) a1))], [] => (g a0 a1).bind fun r => K ⟨.v (.one (.d .bool r)), []⟩
    | _, _ => none
  legit := fun tvs blks K r h => by
    split at h
    · obtain ⟨x, hx, hk⟩ := Option.bind_eq_some_iff.1 h
      refine ⟨_, ?_, hk⟩
      simp only [hx, Option.bind_some]
    · simp at h
def seg_transomref07_Can_0 (g : Int → Int → Bool → Option Bool) : Seg where
  path := [1, 0, 1]
  prep := []
  keep := [0, 1, 18]
  F := fun tvs blks {β} K => match tvs, blks with
    | [.v (.one (.d (.int .i64) x0)), .v (.one (.d (.int .i64) x1)), .v (.one (.d .bool x2))], [] => (g x0 x1 x2).bind fun r => K ⟨.v (.one (.d .bool r)), []⟩
    | _, _ => none
  legit := fun tvs blks K r h => by
    split at h
    · obtain ⟨x, hx, hk⟩ := Option.bind_eq_some_iff.1 h
      refine ⟨_, ?_, hk⟩
      simp only [hx, Option.bind_some]
    · simp at h
def seg_transomref07_Can_1 (g : Int → Int → Option Bool) : Seg where
  path := [1, 1]
  prep := []
  keep := [0, 1]
  F := fun tvs blks {β} K => match tvs, blks with
    | [.v (.one (.d (.int .i64) x0)), .v (.one (.d (.int .i64) x1))], [] => (g x0 x1).bind fun r => K ⟨.v (.one (.d .bool r)), []⟩
    | _, _ => none
  legit := fun tvs blks K r h => by
    split at h
    · obtain ⟨x, hx, hk⟩ := Option.bind_eq_some_iff.1 h
      refine ⟨_, ?_, hk⟩
      simp only [hx, Option.bind_some]
    · simp at h
noncomputable def env_transomref07_Can  (s0 : Int → Int → Bool → Option Bool) (s1 : Int → Int → Option Bool) : FEnv := { P := Go.Proofs.Try.prog, ct := fun m => none, N := 36, body := Go.Proofs.Try.f13.body.getD .skip, rvs := [.tmp 4], rts := [4], nin := 0, rmv := [], segs := [seg_transomref07_Can_0 s0, seg_transomref07_Can_1 s1] }
def transomref07_Can.c {β : Type}  (s0 : Int → Int → Bool → Option Bool) (s1 : Int → Int → Option Bool) (a0 : Int) (a1 : Int) (ret : Bool → Option β) : Option β := (bif (decide (a0 < (1 : Int))) then ((s0 a0 a1 true).bind ret) else (bif (decide (a0 > (5 : Int))) then ((s0 a0 a1 true).bind ret) else (bif (decide (a1 < (1 : Int))) then ((s0 a0 a1 true).bind ret) else ((s0 a0 a1 (decide (a1 > (5 : Int)))).bind ret))))
def transomref07_Can.s0c {β : Type}  (s0 : Int → Int → Bool → Option Bool) (s1 : Int → Int → Option Bool) (x0 : Int) (x1 : Int) (x2 : Bool) (ret : Bool → Option β) : Option β := (bif x2 then (ret (false)) else ((s1 x0 x1).bind ret))
def transomref07_Can.s1c {β : Type}  (s0 : Int → Int → Bool → Option Bool) (s1 : Int → Int → Option Bool) (x0 : Int) (x1 : Int) (ret : Bool → Option β) : Option β := (bif (x0 == (1 : Int)) then (ret ((x1 != (4 : Int)))) else (bif (x0 == (3 : Int)) then (ret ((x1 != (5 : Int)))) else (bif (x0 == (4 : Int)) then (ret ((x1 != (1 : Int)))) else (bif (x0 == (5 : Int)) then (ret ((x1 != (3 : Int)))) else (ret (true))))))
theorem transomref07_Can.c_bind {β : Type}  (s0 : Int → Int → Bool → Option Bool) (s1 : Int → Int → Option Bool) (a0 : Int) (a1 : Int) (ret : Bool → Option β) : transomref07_Can.c  s0 s1 a0 a1 ret = (transomref07_Can.c  s0 s1 a0 a1 some).bind ret := by
  simp only [transomref07_Can.c, bif_bind, sum_bind, Option.bind_assoc, Option.bind_some, Option.bind_none, Option.bind_fun_some]
theorem transomref07_Can.s0c_bind {β : Type}  (s0 : Int → Int → Bool → Option Bool) (s1 : Int → Int → Option Bool) (x0 : Int) (x1 : Int) (x2 : Bool) (ret : Bool → Option β) : transomref07_Can.s0c  s0 s1 x0 x1 x2 ret = (transomref07_Can.s0c  s0 s1 x0 x1 x2 some).bind ret := by
  simp only [transomref07_Can.s0c, bif_bind, sum_bind, Option.bind_assoc, Option.bind_some, Option.bind_none, Option.bind_fun_some]
theorem transomref07_Can.s1c_bind {β : Type}  (s0 : Int → Int → Bool → Option Bool) (s1 : Int → Int → Option Bool) (x0 : Int) (x1 : Int) (ret : Bool → Option β) : transomref07_Can.s1c  s0 s1 x0 x1 ret = (transomref07_Can.s1c  s0 s1 x0 x1 some).bind ret := by
  simp only [transomref07_Can.s1c, bif_bind, sum_bind, Option.bind_assoc, Option.bind_some, Option.bind_none, Option.bind_fun_some]
theorem transomref07_Can.ev  (s0 : Int → Int → Bool → Option Bool) (s1 : Int → Int → Option Bool) (a0 : Int) (a1 : Int) : evAt (env_transomref07_Can  s0 s1) [] [0, 1] [.v (.one (.d (.int .i64) a0)), .v (.one (.d (.int .i64) a1))] [] some = transomref07_Can.c  s0 s1 a0 a1 (fun r => some ⟨.v (.one (.d .bool r)), []⟩) := by
  kernel_rfl
theorem transomref07_Can.s0_ev  (s0 : Int → Int → Bool → Option Bool) (s1 : Int → Int → Option Bool) (x0 : Int) (x1 : Int) (x2 : Bool) : evAt (env_transomref07_Can  s0 s1) [1, 0, 1] [0, 1, 18] [.v (.one (.d (.int .i64) x0)), .v (.one (.d (.int .i64) x1)), .v (.one (.d .bool x2))] [] some = transomref07_Can.s0c  s0 s1 x0 x1 x2 (fun r => some ⟨.v (.one (.d .bool r)), []⟩) := by
  kernel_rfl
theorem transomref07_Can.s1_ev  (s0 : Int → Int → Bool → Option Bool) (s1 : Int → Int → Option Bool) (x0 : Int) (x1 : Int) : evAt (env_transomref07_Can  s0 s1) [1, 1] [0, 1] [.v (.one (.d (.int .i64) x0)), .v (.one (.d (.int .i64) x1))] [] some = transomref07_Can.s1c  s0 s1 x0 x1 (fun r => some ⟨.v (.one (.d .bool r)), []⟩) := by
  kernel_rfl
mutual
def transomref07_Can.s0 : Nat → Int → Int → Bool → Option Bool
  | 0, _, _, _ => none
  | k + 1, x0, x1, x2 => transomref07_Can.s0c  (transomref07_Can.s0 k) (transomref07_Can.s1 k) x0 x1 x2 some
def transomref07_Can.s1 : Nat → Int → Int → Option Bool
  | 0, _, _ => none
  | k + 1, x0, x1 => transomref07_Can.s1c  (transomref07_Can.s0 k) (transomref07_Can.s1 k) x0 x1 some
end
def transomref07_Can.f (k : Nat) (a0 : Int) (a1 : Int) : Option Bool := transomref07_Can.c  (transomref07_Can.s0 k) (transomref07_Can.s1 k) a0 a1 some
theorem transomref07_Can.is  (s0 : Int → Int → Bool → Option Bool) (s1 : Int → Int → Option Bool) : FnIs (env_transomref07_Can  s0 s1) 13 Go.Proofs.Try.f13 := ⟨Go.Proofs.Try.func13, rfl, rfl, rfl, by decide⟩
theorem transomref07_Can.envok  (s0 : Int → Int → Bool → Option Bool) (s1 : Int → Int → Option Bool)  : EnvOK (env_transomref07_Can  s0 s1).toEnv := by
  intro f c h
  simp only [env_transomref07_Can] at h
  simp at h
theorem transomref07_Can.segs_ok : ∀ k, ∀ s ∈ (env_transomref07_Can  (transomref07_Can.s0 k) (transomref07_Can.s1 k)).segs, SegOK (env_transomref07_Can  (transomref07_Can.s0 k) (transomref07_Can.s1 k)) Go.Proofs.Try.f13 s
  | 0 => by
    intro s hs
    simp only [env_transomref07_Can, List.mem_cons, List.not_mem_nil, or_false] at hs
    rcases hs with rfl | rfl
    · intro tvs blks res h; exfalso; simp only [seg_transomref07_Can_0] at h; split at h <;> simp [transomref07_Can.s0] at h
    · intro tvs blks res h; exfalso; simp only [seg_transomref07_Can_1] at h; split at h <;> simp [transomref07_Can.s1] at h
  | k + 1 => by
    have ih := transomref07_Can.segs_ok k
    intro s hs
    simp only [env_transomref07_Can, List.mem_cons, List.not_mem_nil, or_false] at hs
    rcases hs with rfl | rfl
    · refine seg_of_ev (E := env_transomref07_Can  (transomref07_Can.s0 k) (transomref07_Can.s1 k)) (transomref07_Can.envok _ _  ) ⟨(transomref07_Can.is  (transomref07_Can.s0 k) (transomref07_Can.s1 k)).rvs⟩ ih ?_
      intro tvs blks res h
      simp only [seg_transomref07_Can_0] at h
      split at h
      · refine (transomref07_Can.s0_ev  (transomref07_Can.s0 k) (transomref07_Can.s1 k) _ _ _ ).trans ?_
        rw [transomref07_Can.s0c_bind]
        exact h
      · simp at h
    · refine seg_of_ev (E := env_transomref07_Can  (transomref07_Can.s0 k) (transomref07_Can.s1 k)) (transomref07_Can.envok _ _  ) ⟨(transomref07_Can.is  (transomref07_Can.s0 k) (transomref07_Can.s1 k)).rvs⟩ ih ?_
      intro tvs blks res h
      simp only [seg_transomref07_Can_1] at h
      split at h
      · refine (transomref07_Can.s1_ev  (transomref07_Can.s0 k) (transomref07_Can.s1 k) _ _ ).trans ?_
        rw [transomref07_Can.s1c_bind]
        exact h
      · simp at h
theorem transomref07_Can.ok (k : Nat) : CtOK Go.Proofs.Try.prog 13 (ct_transomref07_Can (transomref07_Can.f k)) := by
  refine ct_of_ev (E := env_transomref07_Can  (transomref07_Can.s0 k) (transomref07_Can.s1 k)) (transomref07_Can.is _ _ ) (transomref07_Can.envok _ _  ) (transomref07_Can.segs_ok k) rfl ?_
  intro tvs blks res h
  simp only [ct_transomref07_Can] at h
  split at h
  · refine (transomref07_Can.ev  (transomref07_Can.s0 k) (transomref07_Can.s1 k) _ _ ).trans ?_
    rw [transomref07_Can.c_bind]
    exact h
  · simp at h

/-! ### transomref02_exponent: function 52 -/
def ct_transomref02_exponent (g : Int → Option Int) : Ct where
  nin := 0
  mv := []
  F := fun tvs blks {β} K => match tvs, blks with
    | [.v (.one (.d (.int .u64) a0))], [] => (g a0).bind fun r => K ⟨.v (.one (.d (.int .i64) r)), []⟩
    | _, _ => none
  legit := fun tvs blks K r h => by
    split at h
    · obtain ⟨x, hx, hk⟩ := Option.bind_eq_some_iff.1 h
      refine ⟨_, ?_, hk⟩
      simp only [hx, Option.bind_some]
    · simp at h
noncomputable def env_transomref02_exponent   : FEnv := { P := Go.Proofs.Try.prog, ct := fun m => none, N := 7, body := Go.Proofs.Try.f52.body.getD .skip, rvs := [.tmp 2], rts := [3], nin := 0, rmv := [], segs := [] }
def transomref02_exponent.c {β : Type}   (a0 : Int) (ret : Int → Option β) : Option β := (ret ((IntKind.wrap IntKind.i64 (IntKind.wrap IntKind.u64 ((BitVec.toNat ((BitVec.ofInt (64 : Nat) (Int.fdiv a0 (4503599627370496 : Int))) &&& (BitVec.ofInt (64 : Nat) (2047 : Int)))) : Int)))))
theorem transomref02_exponent.c_bind {β : Type}   (a0 : Int) (ret : Int → Option β) : transomref02_exponent.c   a0 ret = (transomref02_exponent.c   a0 some).bind ret := by
  simp only [transomref02_exponent.c, bif_bind, sum_bind, Option.bind_assoc, Option.bind_some, Option.bind_none, Option.bind_fun_some]
theorem transomref02_exponent.ev   (a0 : Int) : evAt (env_transomref02_exponent  ) [] [0] [.v (.one (.d (.int .u64) a0))] [] some = transomref02_exponent.c   a0 (fun r => some ⟨.v (.one (.d (.int .i64) r)), []⟩) := by
  kernel_rfl
def transomref02_exponent.f (k : Nat) (a0 : Int) : Option Int := transomref02_exponent.c   a0 some
theorem transomref02_exponent.is   : FnIs (env_transomref02_exponent  ) 52 Go.Proofs.Try.f52 := ⟨Go.Proofs.Try.func52, rfl, rfl, rfl, by decide⟩
theorem transomref02_exponent.envok    : EnvOK (env_transomref02_exponent  ).toEnv := by
  intro f c h
  simp only [env_transomref02_exponent] at h
  simp at h
theorem transomref02_exponent.ok (k : Nat) : CtOK Go.Proofs.Try.prog 52 (ct_transomref02_exponent (transomref02_exponent.f k)) := by
  refine ct_of_ev (E := env_transomref02_exponent  ) (transomref02_exponent.is ) (transomref02_exponent.envok  ) (fun s hs => by simp [env_transomref02_exponent] at hs) rfl ?_
  intro tvs blks res h
  simp only [ct_transomref02_exponent] at h
  split at h
  · refine (transomref02_exponent.ev   _ ).trans ?_
    rw [transomref02_exponent.c_bind]
    exact h
  · simp at h

/-! ### transomref02_fraction: function 53 -/
def ct_transomref02_fraction (g : Int → Option Int) : Ct where
  nin := 0
  mv := []
  F := fun tvs blks {β} K => match tvs, blks with
    | [.v (.one (.d (.int .u64) a0))], [] => (g a0).bind fun r => K ⟨.v (.one (.d (.int .u64) r)), []⟩
    | _, _ => none
  legit := fun tvs blks K r h => by
    split at h
    · obtain ⟨x, hx, hk⟩ := Option.bind_eq_some_iff.1 h
      refine ⟨_, ?_, hk⟩
      simp only [hx, Option.bind_some]
    · simp at h
noncomputable def env_transomref02_fraction   : FEnv := { P := Go.Proofs.Try.prog, ct := fun m => none, N := 5, body := Go.Proofs.Try.f53.body.getD .skip, rvs := [.tmp 2], rts := [22], nin := 0, rmv := [], segs := [] }
def transomref02_fraction.c {β : Type}   (a0 : Int) (ret : Int → Option β) : Option β := (ret ((IntKind.wrap IntKind.u64 ((BitVec.toNat ((BitVec.ofInt (64 : Nat) a0) &&& (BitVec.ofInt (64 : Nat) (4503599627370495 : Int)))) : Int))))
theorem transomref02_fraction.c_bind {β : Type}   (a0 : Int) (ret : Int → Option β) : transomref02_fraction.c   a0 ret = (transomref02_fraction.c   a0 some).bind ret := by
  simp only [transomref02_fraction.c, bif_bind, sum_bind, Option.bind_assoc, Option.bind_some, Option.bind_none, Option.bind_fun_some]
theorem transomref02_fraction.ev   (a0 : Int) : evAt (env_transomref02_fraction  ) [] [0] [.v (.one (.d (.int .u64) a0))] [] some = transomref02_fraction.c   a0 (fun r => some ⟨.v (.one (.d (.int .u64) r)), []⟩) := by
  kernel_rfl
def transomref02_fraction.f (k : Nat) (a0 : Int) : Option Int := transomref02_fraction.c   a0 some
theorem transomref02_fraction.is   : FnIs (env_transomref02_fraction  ) 53 Go.Proofs.Try.f53 := ⟨Go.Proofs.Try.func53, rfl, rfl, rfl, by decide⟩
theorem transomref02_fraction.envok    : EnvOK (env_transomref02_fraction  ).toEnv := by
  intro f c h
  simp only [env_transomref02_fraction] at h
  simp at h
theorem transomref02_fraction.ok (k : Nat) : CtOK Go.Proofs.Try.prog 53 (ct_transomref02_fraction (transomref02_fraction.f k)) := by
  refine ct_of_ev (E := env_transomref02_fraction  ) (transomref02_fraction.is ) (transomref02_fraction.envok  ) (fun s hs => by simp [env_transomref02_fraction] at hs) rfl ?_
  intro tvs blks res h
  simp only [ct_transomref02_fraction] at h
  split at h
  · refine (transomref02_fraction.ev   _ ).trans ?_
    rw [transomref02_fraction.c_bind]
    exact h
  · simp at h

/-! ### transomref02_Class: function 37 -/
def ct_transomref02_Class (g : Int → Option Int) : Ct where
  nin := 0
  mv := []
  F := fun tvs blks {β} K => match tvs, blks with
    | [.v (.one (.d (.int .u64) a0))], [] => (g a0).bind fun r => K ⟨.v (.one (.d (.int .i64) r)), []⟩
    | _, _ => none
  legit := fun tvs blks K r h => by
    split at h
    · obtain ⟨x, hx, hk⟩ := Option.bind_eq_some_iff.1 h
      refine ⟨_, ?_, hk⟩
      simp only [hx, Option.bind_some]
    · simp at h
def seg_transomref02_Class_0 (g : Int → Bool → Option Int) : Seg where
  path := [1, 4, 0, 1]
  prep := []
  keep := [0, 3]
  F := fun tvs blks {β} K => match tvs, blks with
    | [.v (.one (.d (.int .u64) x0)), .v (.one (.d .bool x1))], [] => (g x0 x1).bind fun r => K ⟨.v (.one (.d (.int .i64) r)), []⟩
    | _, _ => none
  legit := fun tvs blks K r h => by
    split at h
    · obtain ⟨x, hx, hk⟩ := Option.bind_eq_some_iff.1 h
      refine ⟨_, ?_, hk⟩
      simp only [hx, Option.bind_some]
    · simp at h
noncomputable def env_transomref02_Class (g52 : Int → Option Int) (g53 : Int → Option Int) (s0 : Int → Bool → Option Int) : FEnv := { P := Go.Proofs.Try.prog, ct := fun m => if m = 52 then some (ct_transomref02_exponent g52) else if m = 53 then some (ct_transomref02_fraction g53) else none, N := 29, body := Go.Proofs.Try.f37.body.getD .skip, rvs := [.tmp 2], rts := [3], nin := 0, rmv := [], segs := [seg_transomref02_Class_0 s0] }
def transomref02_Class.c {β : Type} (g52 : Int → Option Int) (g53 : Int → Option Int) (s0 : Int → Bool → Option Int) (a0 : Int) (ret : Int → Option β) : Option β := ((g52 a0).bind fun r0 => (bif (r0 == (2047 : Int)) then ((g53 a0).bind fun r1 => ((s0 a0 (r1 != (0 : Int))).bind ret)) else ((s0 a0 false).bind ret)))
def transomref02_Class.s0c {β : Type} (g52 : Int → Option Int) (g53 : Int → Option Int) (s0 : Int → Bool → Option Int) (x0 : Int) (x1 : Bool) (ret : Int → Option β) : Option β := (bif x1 then (ret ((1 : Int))) else ((g52 x0).bind fun r0 => (bif (r0 == (2047 : Int)) then (ret ((2 : Int))) else ((g52 x0).bind fun r1 => (bif (r1 == (0 : Int)) then ((g53 x0).bind fun r2 => (bif (r2 == (0 : Int)) then (ret ((3 : Int))) else ((g52 x0).bind fun r3 => (bif (r3 == (0 : Int)) then (ret ((4 : Int))) else (ret ((5 : Int))))))) else ((g52 x0).bind fun r4 => (bif (r4 == (0 : Int)) then (ret ((4 : Int))) else (ret ((5 : Int))))))))))
theorem transomref02_Class.c_bind {β : Type} (g52 : Int → Option Int) (g53 : Int → Option Int) (s0 : Int → Bool → Option Int) (a0 : Int) (ret : Int → Option β) : transomref02_Class.c g52 g53 s0 a0 ret = (transomref02_Class.c g52 g53 s0 a0 some).bind ret := by
  simp only [transomref02_Class.c, bif_bind, sum_bind, Option.bind_assoc, Option.bind_some, Option.bind_none, Option.bind_fun_some]
theorem transomref02_Class.s0c_bind {β : Type} (g52 : Int → Option Int) (g53 : Int → Option Int) (s0 : Int → Bool → Option Int) (x0 : Int) (x1 : Bool) (ret : Int → Option β) : transomref02_Class.s0c g52 g53 s0 x0 x1 ret = (transomref02_Class.s0c g52 g53 s0 x0 x1 some).bind ret := by
  simp only [transomref02_Class.s0c, bif_bind, sum_bind, Option.bind_assoc, Option.bind_some, Option.bind_none, Option.bind_fun_some]
theorem transomref02_Class.ev (g52 : Int → Option Int) (g53 : Int → Option Int) (s0 : Int → Bool → Option Int) (a0 : Int) : evAt (env_transomref02_Class g52 g53 s0) [] [0] [.v (.one (.d (.int .u64) a0))] [] some = transomref02_Class.c g52 g53 s0 a0 (fun r => some ⟨.v (.one (.d (.int .i64) r)), []⟩) := by
  kernel_rfl
theorem transomref02_Class.s0_ev (g52 : Int → Option Int) (g53 : Int → Option Int) (s0 : Int → Bool → Option Int) (x0 : Int) (x1 : Bool) : evAt (env_transomref02_Class g52 g53 s0) [1, 4, 0, 1] [0, 3] [.v (.one (.d (.int .u64) x0)), .v (.one (.d .bool x1))] [] some = transomref02_Class.s0c g52 g53 s0 x0 x1 (fun r => some ⟨.v (.one (.d (.int .i64) r)), []⟩) := by
  kernel_rfl
def transomref02_Class.s0 : Nat → Int → Bool → Option Int
  | 0, _, _ => none
  | k + 1, x0, x1 => transomref02_Class.s0c (transomref02_exponent.f k) (transomref02_fraction.f k) (transomref02_Class.s0 k) x0 x1 some
def transomref02_Class.f (k : Nat) (a0 : Int) : Option Int := transomref02_Class.c (transomref02_exponent.f k) (transomref02_fraction.f k) (transomref02_Class.s0 k) a0 some
theorem transomref02_Class.is (g52 : Int → Option Int) (g53 : Int → Option Int) (s0 : Int → Bool → Option Int) : FnIs (env_transomref02_Class g52 g53 s0) 37 Go.Proofs.Try.f37 := ⟨Go.Proofs.Try.func37, rfl, rfl, rfl, by decide⟩
theorem transomref02_Class.envok (g52 : Int → Option Int) (g53 : Int → Option Int) (s0 : Int → Bool → Option Int) (h52 : CtOK Go.Proofs.Try.prog 52 (ct_transomref02_exponent g52)) (h53 : CtOK Go.Proofs.Try.prog 53 (ct_transomref02_fraction g53)) : EnvOK (env_transomref02_Class g52 g53 s0).toEnv := by
  intro f c h
  simp only [env_transomref02_Class] at h
  split at h
  · rename_i e; subst e; cases h; exact h52
  split at h
  · rename_i e; subst e; cases h; exact h53
  simp at h
theorem transomref02_Class.segs_ok : ∀ k, ∀ s ∈ (env_transomref02_Class (transomref02_exponent.f k) (transomref02_fraction.f k) (transomref02_Class.s0 k)).segs, SegOK (env_transomref02_Class (transomref02_exponent.f k) (transomref02_fraction.f k) (transomref02_Class.s0 k)) Go.Proofs.Try.f37 s
  | 0 => by
    intro s hs
    simp only [env_transomref02_Class, List.mem_cons, List.not_mem_nil, or_false] at hs
    rcases hs with rfl
    · intro tvs blks res h; exfalso; simp only [seg_transomref02_Class_0] at h; split at h <;> simp [transomref02_Class.s0] at h
  | k + 1 => by
    have ih := transomref02_Class.segs_ok k
    intro s hs
    simp only [env_transomref02_Class, List.mem_cons, List.not_mem_nil, or_false] at hs
    rcases hs with rfl
    · refine seg_of_ev (E := env_transomref02_Class (transomref02_exponent.f k) (transomref02_fraction.f k) (transomref02_Class.s0 k)) (transomref02_Class.envok _ _ _  (transomref02_exponent.ok k) (transomref02_fraction.ok k)) ⟨(transomref02_Class.is (transomref02_exponent.f k) (transomref02_fraction.f k) (transomref02_Class.s0 k)).rvs⟩ ih ?_
      intro tvs blks res h
      simp only [seg_transomref02_Class_0] at h
      split at h
      · refine (transomref02_Class.s0_ev (transomref02_exponent.f k) (transomref02_fraction.f k) (transomref02_Class.s0 k) _ _ ).trans ?_
        rw [transomref02_Class.s0c_bind]
        exact h
      · simp at h
theorem transomref02_Class.ok (k : Nat) : CtOK Go.Proofs.Try.prog 37 (ct_transomref02_Class (transomref02_Class.f k)) := by
  refine ct_of_ev (E := env_transomref02_Class (transomref02_exponent.f k) (transomref02_fraction.f k) (transomref02_Class.s0 k)) (transomref02_Class.is _ _ _ ) (transomref02_Class.envok _ _ _  (transomref02_exponent.ok k) (transomref02_fraction.ok k)) (transomref02_Class.segs_ok k) rfl ?_
  intro tvs blks res h
  simp only [ct_transomref02_Class] at h
  split at h
  · refine (transomref02_Class.ev (transomref02_exponent.f k) (transomref02_fraction.f k) (transomref02_Class.s0 k) _ ).trans ?_
    rw [transomref02_Class.c_bind]
    exact h
  · simp at h

/-! ### transomref02_Canon: function 43 -/
def ct_transomref02_Canon (g : Int → Option Int) : Ct where
  nin := 0
  mv := []
  F := fun tvs blks {β} K => match tvs, blks with
    | [.v (.one (.d (.int .u64) a0))], [] => (g a0).bind fun r => K ⟨.v (.one (.d (.int .u64) r)), []⟩
    | _, _ => none
  legit := fun tvs blks K r h => by
    split at h
    · obtain ⟨x, hx, hk⟩ := Option.bind_eq_some_iff.1 h
      refine ⟨_, ?_, hk⟩
      simp only [hx, Option.bind_some]
    · simp at h
noncomputable def env_transomref02_Canon (g37 : Int → Option Int)  : FEnv := { P := Go.Proofs.Try.prog, ct := fun m => if m = 37 then some (ct_transomref02_Class g37) else none, N := 7, body := Go.Proofs.Try.f43.body.getD .skip, rvs := [.tmp 2], rts := [22], nin := 0, rmv := [], segs := [] }
def transomref02_Canon.c {β : Type} (g37 : Int → Option Int)  (a0 : Int) (ret : Int → Option β) : Option β := ((g37 a0).bind fun r0 => (bif (r0 == (1 : Int)) then (ret ((9221120237041090560 : Int))) else (ret (a0))))
theorem transomref02_Canon.c_bind {β : Type} (g37 : Int → Option Int)  (a0 : Int) (ret : Int → Option β) : transomref02_Canon.c g37  a0 ret = (transomref02_Canon.c g37  a0 some).bind ret := by
  simp only [transomref02_Canon.c, bif_bind, sum_bind, Option.bind_assoc, Option.bind_some, Option.bind_none, Option.bind_fun_some]
theorem transomref02_Canon.ev (g37 : Int → Option Int)  (a0 : Int) : evAt (env_transomref02_Canon g37 ) [] [0] [.v (.one (.d (.int .u64) a0))] [] some = transomref02_Canon.c g37  a0 (fun r => some ⟨.v (.one (.d (.int .u64) r)), []⟩) := by
  kernel_rfl
def transomref02_Canon.f (k : Nat) (a0 : Int) : Option Int := transomref02_Canon.c (transomref02_Class.f k)  a0 some
theorem transomref02_Canon.is (g37 : Int → Option Int)  : FnIs (env_transomref02_Canon g37 ) 43 Go.Proofs.Try.f43 := ⟨Go.Proofs.Try.func43, rfl, rfl, rfl, by decide⟩
theorem transomref02_Canon.envok (g37 : Int → Option Int)  (h37 : CtOK Go.Proofs.Try.prog 37 (ct_transomref02_Class g37)) : EnvOK (env_transomref02_Canon g37 ).toEnv := by
  intro f c h
  simp only [env_transomref02_Canon] at h
  split at h
  · rename_i e; subst e; cases h; exact h37
  simp at h
theorem transomref02_Canon.ok (k : Nat) : CtOK Go.Proofs.Try.prog 43 (ct_transomref02_Canon (transomref02_Canon.f k)) := by
  refine ct_of_ev (E := env_transomref02_Canon (transomref02_Class.f k) ) (transomref02_Canon.is _ ) (transomref02_Canon.envok _  (transomref02_Class.ok k)) (fun s hs => by simp [env_transomref02_Canon] at hs) rfl ?_
  intro tvs blks res h
  simp only [ct_transomref02_Canon] at h
  split at h
  · refine (transomref02_Canon.ev (transomref02_Class.f k)  _ ).trans ?_
    rw [transomref02_Canon.c_bind]
    exact h
  · simp at h

/-! ### transomref01_lead: function 64 -/
def ct_transomref01_lead (g : Int → Option (Int × Int)) : Ct where
  nin := 0
  mv := []
  F := fun tvs blks {β} K => match tvs, blks with
    | [.v (.one (.d (.int .i64) a0))], [] => (g a0).bind fun r => K ⟨.tup [(.one (.d (.int .i64) r.1)), (.one (.d (.int .i64) r.2))], []⟩
    | _, _ => none
  legit := fun tvs blks K r h => by
    split at h
    · obtain ⟨x, hx, hk⟩ := Option.bind_eq_some_iff.1 h
      refine ⟨_, ?_, hk⟩
      simp only [hx, Option.bind_some]
    · simp at h
def seg_transomref01_lead_0 (g : Int → Bool → Option (Int × Int)) : Seg where
  path := [1, 3, 1, 4, 0, 1]
  prep := []
  keep := [0, 8]
  F := fun tvs blks {β} K => match tvs, blks with
    | [.v (.one (.d (.int .i64) x0)), .v (.one (.d .bool x1))], [] => (g x0 x1).bind fun r => K ⟨.tup [(.one (.d (.int .i64) r.1)), (.one (.d (.int .i64) r.2))], []⟩
    | _, _ => none
  legit := fun tvs blks K r h => by
    split at h
    · obtain ⟨x, hx, hk⟩ := Option.bind_eq_some_iff.1 h
      refine ⟨_, ?_, hk⟩
      simp only [hx, Option.bind_some]
    · simp at h
def seg_transomref01_lead_1 (g : Int → Bool → Option (Int × Int)) : Seg where
  path := [1, 3, 1, 3, 1, 4, 0, 1]
  prep := []
  keep := [0, 17]
  F := fun tvs blks {β} K => match tvs, blks with
    | [.v (.one (.d (.int .i64) x0)), .v (.one (.d .bool x1))], [] => (g x0 x1).bind fun r => K ⟨.tup [(.one (.d (.int .i64) r.1)), (.one (.d (.int .i64) r.2))], []⟩
    | _, _ => none
  legit := fun tvs blks K r h => by
    split at h
    · obtain ⟨x, hx, hk⟩ := Option.bind_eq_some_iff.1 h
      refine ⟨_, ?_, hk⟩
      simp only [hx, Option.bind_some]
    · simp at h
noncomputable def env_transomref01_lead  (s0 : Int → Bool → Option (Int × Int)) (s1 : Int → Bool → Option (Int × Int)) : FEnv := { P := Go.Proofs.Try.prog, ct := fun m => none, N := 35, body := Go.Proofs.Try.f64.body.getD .skip, rvs := [.tmp 2, .tmp 3], rts := [3, 3], nin := 0, rmv := [], segs := [seg_transomref01_lead_0 s0, seg_transomref01_lead_1 s1] }
def transomref01_lead.c {β : Type}  (s0 : Int → Bool → Option (Int × Int)) (s1 : Int → Bool → Option (Int × Int)) (a0 : Int) (ret : (Int × Int) → Option β) : Option β := (bif (decide (a0 < (128 : Int))) then (ret ((1 : Int), a0)) else (bif (decide (a0 ≥ (192 : Int))) then ((s0 a0 (decide (a0 < (224 : Int)))).bind ret) else ((s0 a0 false).bind ret)))
def transomref01_lead.s0c {β : Type}  (s0 : Int → Bool → Option (Int × Int)) (s1 : Int → Bool → Option (Int × Int)) (x0 : Int) (x1 : Bool) (ret : (Int × Int) → Option β) : Option β := (bif x1 then (ret ((2 : Int), (IntKind.wrap IntKind.i64 (x0 - (192 : Int))))) else (bif (decide (x0 ≥ (224 : Int))) then ((s1 x0 (decide (x0 < (240 : Int)))).bind ret) else ((s1 x0 false).bind ret)))
def transomref01_lead.s1c {β : Type}  (s0 : Int → Bool → Option (Int × Int)) (s1 : Int → Bool → Option (Int × Int)) (x0 : Int) (x1 : Bool) (ret : (Int × Int) → Option β) : Option β := (bif x1 then (ret ((3 : Int), (IntKind.wrap IntKind.i64 (x0 - (224 : Int))))) else (bif (decide (x0 ≥ (240 : Int))) then (bif (decide (x0 < (248 : Int))) then (ret ((4 : Int), (IntKind.wrap IntKind.i64 (x0 - (240 : Int))))) else (ret ((0 : Int), (0 : Int)))) else (ret ((0 : Int), (0 : Int)))))
theorem transomref01_lead.c_bind {β : Type}  (s0 : Int → Bool → Option (Int × Int)) (s1 : Int → Bool → Option (Int × Int)) (a0 : Int) (ret : (Int × Int) → Option β) : transomref01_lead.c  s0 s1 a0 ret = (transomref01_lead.c  s0 s1 a0 some).bind ret := by
  simp only [transomref01_lead.c, bif_bind, sum_bind, Option.bind_assoc, Option.bind_some, Option.bind_none, Option.bind_fun_some]
theorem transomref01_lead.s0c_bind {β : Type}  (s0 : Int → Bool → Option (Int × Int)) (s1 : Int → Bool → Option (Int × Int)) (x0 : Int) (x1 : Bool) (ret : (Int × Int) → Option β) : transomref01_lead.s0c  s0 s1 x0 x1 ret = (transomref01_lead.s0c  s0 s1 x0 x1 some).bind ret := by
  simp only [transomref01_lead.s0c, bif_bind, sum_bind, Option.bind_assoc, Option.bind_some, Option.bind_none, Option.bind_fun_some]
theorem transomref01_lead.s1c_bind {β : Type}  (s0 : Int → Bool → Option (Int × Int)) (s1 : Int → Bool → Option (Int × Int)) (x0 : Int) (x1 : Bool) (ret : (Int × Int) → Option β) : transomref01_lead.s1c  s0 s1 x0 x1 ret = (transomref01_lead.s1c  s0 s1 x0 x1 some).bind ret := by
  simp only [transomref01_lead.s1c, bif_bind, sum_bind, Option.bind_assoc, Option.bind_some, Option.bind_none, Option.bind_fun_some]
theorem transomref01_lead.ev  (s0 : Int → Bool → Option (Int × Int)) (s1 : Int → Bool → Option (Int × Int)) (a0 : Int) : evAt (env_transomref01_lead  s0 s1) [] [0] [.v (.one (.d (.int .i64) a0))] [] some = transomref01_lead.c  s0 s1 a0 (fun r => some ⟨.tup [(.one (.d (.int .i64) r.1)), (.one (.d (.int .i64) r.2))], []⟩) := by
  kernel_rfl
theorem transomref01_lead.s0_ev  (s0 : Int → Bool → Option (Int × Int)) (s1 : Int → Bool → Option (Int × Int)) (x0 : Int) (x1 : Bool) : evAt (env_transomref01_lead  s0 s1) [1, 3, 1, 4, 0, 1] [0, 8] [.v (.one (.d (.int .i64) x0)), .v (.one (.d .bool x1))] [] some = transomref01_lead.s0c  s0 s1 x0 x1 (fun r => some ⟨.tup [(.one (.d (.int .i64) r.1)), (.one (.d (.int .i64) r.2))], []⟩) := by
  kernel_rfl
theorem transomref01_lead.s1_ev  (s0 : Int → Bool → Option (Int × Int)) (s1 : Int → Bool → Option (Int × Int)) (x0 : Int) (x1 : Bool) : evAt (env_transomref01_lead  s0 s1) [1, 3, 1, 3, 1, 4, 0, 1] [0, 17] [.v (.one (.d (.int .i64) x0)), .v (.one (.d .bool x1))] [] some = transomref01_lead.s1c  s0 s1 x0 x1 (fun r => some ⟨.tup [(.one (.d (.int .i64) r.1)), (.one (.d (.int .i64) r.2))], []⟩) := by
  kernel_rfl
mutual
def transomref01_lead.s0 : Nat → Int → Bool → Option (Int × Int)
  | 0, _, _ => none
  | k + 1, x0, x1 => transomref01_lead.s0c  (transomref01_lead.s0 k) (transomref01_lead.s1 k) x0 x1 some
def transomref01_lead.s1 : Nat → Int → Bool → Option (Int × Int)
  | 0, _, _ => none
  | k + 1, x0, x1 => transomref01_lead.s1c  (transomref01_lead.s0 k) (transomref01_lead.s1 k) x0 x1 some
end
def transomref01_lead.f (k : Nat) (a0 : Int) : Option (Int × Int) := transomref01_lead.c  (transomref01_lead.s0 k) (transomref01_lead.s1 k) a0 some
theorem transomref01_lead.is  (s0 : Int → Bool → Option (Int × Int)) (s1 : Int → Bool → Option (Int × Int)) : FnIs (env_transomref01_lead  s0 s1) 64 Go.Proofs.Try.f64 := ⟨Go.Proofs.Try.func64, rfl, rfl, rfl, by decide⟩
theorem transomref01_lead.envok  (s0 : Int → Bool → Option (Int × Int)) (s1 : Int → Bool → Option (Int × Int))  : EnvOK (env_transomref01_lead  s0 s1).toEnv := by
  intro f c h
  simp only [env_transomref01_lead] at h
  simp at h
theorem transomref01_lead.segs_ok : ∀ k, ∀ s ∈ (env_transomref01_lead  (transomref01_lead.s0 k) (transomref01_lead.s1 k)).segs, SegOK (env_transomref01_lead  (transomref01_lead.s0 k) (transomref01_lead.s1 k)) Go.Proofs.Try.f64 s
  | 0 => by
    intro s hs
    simp only [env_transomref01_lead, List.mem_cons, List.not_mem_nil, or_false] at hs
    rcases hs with rfl | rfl
    · intro tvs blks res h; exfalso; simp only [seg_transomref01_lead_0] at h; split at h <;> simp [transomref01_lead.s0] at h
    · intro tvs blks res h; exfalso; simp only [seg_transomref01_lead_1] at h; split at h <;> simp [transomref01_lead.s1] at h
  | k + 1 => by
    have ih := transomref01_lead.segs_ok k
    intro s hs
    simp only [env_transomref01_lead, List.mem_cons, List.not_mem_nil, or_false] at hs
    rcases hs with rfl | rfl
    · refine seg_of_ev (E := env_transomref01_lead  (transomref01_lead.s0 k) (transomref01_lead.s1 k)) (transomref01_lead.envok _ _  ) ⟨(transomref01_lead.is  (transomref01_lead.s0 k) (transomref01_lead.s1 k)).rvs⟩ ih ?_
      intro tvs blks res h
      simp only [seg_transomref01_lead_0] at h
      split at h
      · refine (transomref01_lead.s0_ev  (transomref01_lead.s0 k) (transomref01_lead.s1 k) _ _ ).trans ?_
        rw [transomref01_lead.s0c_bind]
        exact h
      · simp at h
    · refine seg_of_ev (E := env_transomref01_lead  (transomref01_lead.s0 k) (transomref01_lead.s1 k)) (transomref01_lead.envok _ _  ) ⟨(transomref01_lead.is  (transomref01_lead.s0 k) (transomref01_lead.s1 k)).rvs⟩ ih ?_
      intro tvs blks res h
      simp only [seg_transomref01_lead_1] at h
      split at h
      · refine (transomref01_lead.s1_ev  (transomref01_lead.s0 k) (transomref01_lead.s1 k) _ _ ).trans ?_
        rw [transomref01_lead.s1c_bind]
        exact h
      · simp at h
theorem transomref01_lead.ok (k : Nat) : CtOK Go.Proofs.Try.prog 64 (ct_transomref01_lead (transomref01_lead.f k)) := by
  refine ct_of_ev (E := env_transomref01_lead  (transomref01_lead.s0 k) (transomref01_lead.s1 k)) (transomref01_lead.is _ _ ) (transomref01_lead.envok _ _  ) (transomref01_lead.segs_ok k) rfl ?_
  intro tvs blks res h
  simp only [ct_transomref01_lead] at h
  split at h
  · refine (transomref01_lead.ev  (transomref01_lead.s0 k) (transomref01_lead.s1 k) _ ).trans ?_
    rw [transomref01_lead.c_bind]
    exact h
  · simp at h

/-! ### transomref01_among: function 65 -/
def ct_transomref01_among (g : Int → Int → Int → Option Bool) : Ct where
  nin := 0
  mv := []
  F := fun tvs blks {β} K => match tvs, blks with
    | [.v (.one (.d (.int .i64) a0)), .v (.one (.d (.int .i64) a1)), .v (.one (.d (.int .i64) a2))], [] => (g a0 a1 a2).bind fun r => K ⟨.v (.one (.d .bool r)), []⟩
    | _, _ => none
  legit := fun tvs blks K r h => by
    split at h
    · obtain ⟨x, hx, hk⟩ := Option.bind_eq_some_iff.1 h
      refine ⟨_, ?_, hk⟩
      simp only [hx, Option.bind_some]
    · simp at h
def seg_transomref01_among_0 (g : Int → Int → Int → Int → Int → Option Bool) : Seg where
  path := [1, 1, 1]
  prep := []
  keep := [0, 1, 2, 7, 8]
  F := fun tvs blks {β} K => match tvs, blks with
    | [.v (.one (.d (.int .i64) x0)), .v (.one (.d (.int .i64) x1)), .v (.one (.d (.int .i64) x2)), .v (.one (.d (.int .i64) x3)), .v (.one (.d (.int .i64) x4))], [] => (g x0 x1 x2 x3 x4).bind fun r => K ⟨.v (.one (.d .bool r)), []⟩
    | _, _ => none
  legit := fun tvs blks K r h => by
    split at h
    · obtain ⟨x, hx, hk⟩ := Option.bind_eq_some_iff.1 h
      refine ⟨_, ?_, hk⟩
      simp only [hx, Option.bind_some]
    · simp at h
def seg_transomref01_among_1 (g : Int → Int → Int → Int → Int → Option Bool) : Seg where
  path := [1, 1, 1, 1]
  prep := []
  keep := [0, 1, 2, 7, 8]
  F := fun tvs blks {β} K => match tvs, blks with
    | [.v (.one (.d (.int .i64) x0)), .v (.one (.d (.int .i64) x1)), .v (.one (.d (.int .i64) x2)), .v (.one (.d (.int .i64) x3)), .v (.one (.d (.int .i64) x4))], [] => (g x0 x1 x2 x3 x4).bind fun r => K ⟨.v (.one (.d .bool r)), []⟩
    | _, _ => none
  legit := fun tvs blks K r h => by
    split at h
    · obtain ⟨x, hx, hk⟩ := Option.bind_eq_some_iff.1 h
      refine ⟨_, ?_, hk⟩
      simp only [hx, Option.bind_some]
    · simp at h
def seg_transomref01_among_2 (g : Int → Int → Int → Int → Option Bool) : Seg where
  path := [1, 1, 1, 1, 1]
  prep := []
  keep := [0, 1, 7, 8]
  F := fun tvs blks {β} K => match tvs, blks with
    | [.v (.one (.d (.int .i64) x0)), .v (.one (.d (.int .i64) x1)), .v (.one (.d (.int .i64) x2)), .v (.one (.d (.int .i64) x3))], [] => (g x0 x1 x2 x3).bind fun r => K ⟨.v (.one (.d .bool r)), []⟩
    | _, _ => none
  legit := fun tvs blks K r h => by
    split at h
    · obtain ⟨x, hx, hk⟩ := Option.bind_eq_some_iff.1 h
      refine ⟨_, ?_, hk⟩
      simp only [hx, Option.bind_some]
    · simp at h
noncomputable def env_transomref01_among  (s0 : Int → Int → Int → Int → Int → Option Bool) (s1 : Int → Int → Int → Int → Int → Option Bool) (s2 : Int → Int → Int → Int → Option Bool) : FEnv := { P := Go.Proofs.Try.prog, ct := fun m => none, N := 30, body := Go.Proofs.Try.f65.body.getD .skip, rvs := [.tmp 6], rts := [4], nin := 0, rmv := [], segs := [seg_transomref01_among_0 s0, seg_transomref01_among_1 s1, seg_transomref01_among_2 s2] }
def transomref01_among.c {β : Type}  (s0 : Int → Int → Int → Int → Int → Option Bool) (s1 : Int → Int → Int → Int → Int → Option Bool) (s2 : Int → Int → Int → Int → Option Bool) (a0 : Int) (a1 : Int) (a2 : Int) (ret : Bool → Option β) : Option β := (bif (a2 == (2 : Int)) then ((s0 a0 a1 a2 (128 : Int) (2047 : Int)).bind ret) else ((s0 a0 a1 a2 (0 : Int) (127 : Int)).bind ret))
def transomref01_among.s0c {β : Type}  (s0 : Int → Int → Int → Int → Int → Option Bool) (s1 : Int → Int → Int → Int → Int → Option Bool) (s2 : Int → Int → Int → Int → Option Bool) (x0 : Int) (x1 : Int) (x2 : Int) (x3 : Int) (x4 : Int) (ret : Bool → Option β) : Option β := (bif (x2 == (3 : Int)) then ((s1 x0 x1 x2 (2048 : Int) (65535 : Int)).bind ret) else ((s1 x0 x1 x2 x3 x4).bind ret))
def transomref01_among.s1c {β : Type}  (s0 : Int → Int → Int → Int → Int → Option Bool) (s1 : Int → Int → Int → Int → Int → Option Bool) (s2 : Int → Int → Int → Int → Option Bool) (x0 : Int) (x1 : Int) (x2 : Int) (x3 : Int) (x4 : Int) (ret : Bool → Option β) : Option β := (bif (x2 == (4 : Int)) then ((s2 x0 x1 (65536 : Int) (1114111 : Int)).bind ret) else ((s2 x0 x1 x3 x4).bind ret))
def transomref01_among.s2c {β : Type}  (s0 : Int → Int → Int → Int → Int → Option Bool) (s1 : Int → Int → Int → Int → Int → Option Bool) (s2 : Int → Int → Int → Int → Option Bool) (x0 : Int) (x1 : Int) (x2 : Int) (x3 : Int) (ret : Bool → Option β) : Option β := (bif (decide ((if (x2 > x0) then x2 else x0) > (if (x3 < x1) then x3 else x1))) then (ret (false)) else (bif (decide ((if (x2 > x0) then x2 else x0) < (55296 : Int))) then (ret (true)) else (ret ((decide ((if (x3 < x1) then x3 else x1) > (57343 : Int)))))))
theorem transomref01_among.c_bind {β : Type}  (s0 : Int → Int → Int → Int → Int → Option Bool) (s1 : Int → Int → Int → Int → Int → Option Bool) (s2 : Int → Int → Int → Int → Option Bool) (a0 : Int) (a1 : Int) (a2 : Int) (ret : Bool → Option β) : transomref01_among.c  s0 s1 s2 a0 a1 a2 ret = (transomref01_among.c  s0 s1 s2 a0 a1 a2 some).bind ret := by
  simp only [transomref01_among.c, bif_bind, sum_bind, Option.bind_assoc, Option.bind_some, Option.bind_none, Option.bind_fun_some]
theorem transomref01_among.s0c_bind {β : Type}  (s0 : Int → Int → Int → Int → Int → Option Bool) (s1 : Int → Int → Int → Int → Int → Option Bool) (s2 : Int → Int → Int → Int → Option Bool) (x0 : Int) (x1 : Int) (x2 : Int) (x3 : Int) (x4 : Int) (ret : Bool → Option β) : transomref01_among.s0c  s0 s1 s2 x0 x1 x2 x3 x4 ret = (transomref01_among.s0c  s0 s1 s2 x0 x1 x2 x3 x4 some).bind ret := by
  simp only [transomref01_among.s0c, bif_bind, sum_bind, Option.bind_assoc, Option.bind_some, Option.bind_none, Option.bind_fun_some]
theorem transomref01_among.s1c_bind {β : Type}  (s0 : Int → Int → Int → Int → Int → Option Bool) (s1 : Int → Int → Int → Int → Int → Option Bool) (s2 : Int → Int → Int → Int → Option Bool) (x0 : Int) (x1 : Int) (x2 : Int) (x3 : Int) (x4 : Int) (ret : Bool → Option β) : transomref01_among.s1c  s0 s1 s2 x0 x1 x2 x3 x4 ret = (transomref01_among.s1c  s0 s1 s2 x0 x1 x2 x3 x4 some).bind ret := by
  simp only [transomref01_among.s1c, bif_bind, sum_bind, Option.bind_assoc, Option.bind_some, Option.bind_none, Option.bind_fun_some]
theorem transomref01_among.s2c_bind {β : Type}  (s0 : Int → Int → Int → Int → Int → Option Bool) (s1 : Int → Int → Int → Int → Int → Option Bool) (s2 : Int → Int → Int → Int → Option Bool) (x0 : Int) (x1 : Int) (x2 : Int) (x3 : Int) (ret : Bool → Option β) : transomref01_among.s2c  s0 s1 s2 x0 x1 x2 x3 ret = (transomref01_among.s2c  s0 s1 s2 x0 x1 x2 x3 some).bind ret := by
  simp only [transomref01_among.s2c, bif_bind, sum_bind, Option.bind_assoc, Option.bind_some, Option.bind_none, Option.bind_fun_some]
theorem transomref01_among.ev  (s0 : Int → Int → Int → Int → Int → Option Bool) (s1 : Int → Int → Int → Int → Int → Option Bool) (s2 : Int → Int → Int → Int → Option Bool) (a0 : Int) (a1 : Int) (a2 : Int) : evAt (env_transomref01_among  s0 s1 s2) [] [0, 1, 2] [.v (.one (.d (.int .i64) a0)), .v (.one (.d (.int .i64) a1)), .v (.one (.d (.int .i64) a2))] [] some = transomref01_among.c  s0 s1 s2 a0 a1 a2 (fun r => some ⟨.v (.one (.d .bool r)), []⟩) := by
  kernel_rfl
theorem transomref01_among.s0_ev  (s0 : Int → Int → Int → Int → Int → Option Bool) (s1 : Int → Int → Int → Int → Int → Option Bool) (s2 : Int → Int → Int → Int → Option Bool) (x0 : Int) (x1 : Int) (x2 : Int) (x3 : Int) (x4 : Int) : evAt (env_transomref01_among  s0 s1 s2) [1, 1, 1] [0, 1, 2, 7, 8] [.v (.one (.d (.int .i64) x0)), .v (.one (.d (.int .i64) x1)), .v (.one (.d (.int .i64) x2)), .v (.one (.d (.int .i64) x3)), .v (.one (.d (.int .i64) x4))] [] some = transomref01_among.s0c  s0 s1 s2 x0 x1 x2 x3 x4 (fun r => some ⟨.v (.one (.d .bool r)), []⟩) := by
  kernel_rfl
theorem transomref01_among.s1_ev  (s0 : Int → Int → Int → Int → Int → Option Bool) (s1 : Int → Int → Int → Int → Int → Option Bool) (s2 : Int → Int → Int → Int → Option Bool) (x0 : Int) (x1 : Int) (x2 : Int) (x3 : Int) (x4 : Int) : evAt (env_transomref01_among  s0 s1 s2) [1, 1, 1, 1] [0, 1, 2, 7, 8] [.v (.one (.d (.int .i64) x0)), .v (.one (.d (.int .i64) x1)), .v (.one (.d (.int .i64) x2)), .v (.one (.d (.int .i64) x3)), .v (.one (.d (.int .i64) x4))] [] some = transomref01_among.s1c  s0 s1 s2 x0 x1 x2 x3 x4 (fun r => some ⟨.v (.one (.d .bool r)), []⟩) := by
  kernel_rfl
theorem transomref01_among.s2_ev  (s0 : Int → Int → Int → Int → Int → Option Bool) (s1 : Int → Int → Int → Int → Int → Option Bool) (s2 : Int → Int → Int → Int → Option Bool) (x0 : Int) (x1 : Int) (x2 : Int) (x3 : Int) : evAt (env_transomref01_among  s0 s1 s2) [1, 1, 1, 1, 1] [0, 1, 7, 8] [.v (.one (.d (.int .i64) x0)), .v (.one (.d (.int .i64) x1)), .v (.one (.d (.int .i64) x2)), .v (.one (.d (.int .i64) x3))] [] some = transomref01_among.s2c  s0 s1 s2 x0 x1 x2 x3 (fun r => some ⟨.v (.one (.d .bool r)), []⟩) := by
  kernel_rfl
mutual
def transomref01_among.s0 : Nat → Int → Int → Int → Int → Int → Option Bool
  | 0, _, _, _, _, _ => none
  | k + 1, x0, x1, x2, x3, x4 => transomref01_among.s0c  (transomref01_among.s0 k) (transomref01_among.s1 k) (transomref01_among.s2 k) x0 x1 x2 x3 x4 some
def transomref01_among.s1 : Nat → Int → Int → Int → Int → Int → Option Bool
  | 0, _, _, _, _, _ => none
  | k + 1, x0, x1, x2, x3, x4 => transomref01_among.s1c  (transomref01_among.s0 k) (transomref01_among.s1 k) (transomref01_among.s2 k) x0 x1 x2 x3 x4 some
def transomref01_among.s2 : Nat → Int → Int → Int → Int → Option Bool
  | 0, _, _, _, _ => none
  | k + 1, x0, x1, x2, x3 => transomref01_among.s2c  (transomref01_among.s0 k) (transomref01_among.s1 k) (transomref01_among.s2 k) x0 x1 x2 x3 some
end
def transomref01_among.f (k : Nat) (a0 : Int) (a1 : Int) (a2 : Int) : Option Bool := transomref01_among.c  (transomref01_among.s0 k) (transomref01_among.s1 k) (transomref01_among.s2 k) a0 a1 a2 some
theorem transomref01_among.is  (s0 : Int → Int → Int → Int → Int → Option Bool) (s1 : Int → Int → Int → Int → Int → Option Bool) (s2 : Int → Int → Int → Int → Option Bool) : FnIs (env_transomref01_among  s0 s1 s2) 65 Go.Proofs.Try.f65 := ⟨Go.Proofs.Try.func65, rfl, rfl, rfl, by decide⟩
theorem transomref01_among.envok  (s0 : Int → Int → Int → Int → Int → Option Bool) (s1 : Int → Int → Int → Int → Int → Option Bool) (s2 : Int → Int → Int → Int → Option Bool)  : EnvOK (env_transomref01_among  s0 s1 s2).toEnv := by
  intro f c h
  simp only [env_transomref01_among] at h
  simp at h
theorem transomref01_among.segs_ok : ∀ k, ∀ s ∈ (env_transomref01_among  (transomref01_among.s0 k) (transomref01_among.s1 k) (transomref01_among.s2 k)).segs, SegOK (env_transomref01_among  (transomref01_among.s0 k) (transomref01_among.s1 k) (transomref01_among.s2 k)) Go.Proofs.Try.f65 s
  | 0 => by
    intro s hs
    simp only [env_transomref01_among, List.mem_cons, List.not_mem_nil, or_false] at hs
    rcases hs with rfl | rfl | rfl
    · intro tvs blks res h; exfalso; simp only [seg_transomref01_among_0] at h; split at h <;> simp [transomref01_among.s0] at h
    · intro tvs blks res h; exfalso; simp only [seg_transomref01_among_1] at h; split at h <;> simp [transomref01_among.s1] at h
    · intro tvs blks res h; exfalso; simp only [seg_transomref01_among_2] at h; split at h <;> simp [transomref01_among.s2] at h
  | k + 1 => by
    have ih := transomref01_among.segs_ok k
    intro s hs
    simp only [env_transomref01_among, List.mem_cons, List.not_mem_nil, or_false] at hs
    rcases hs with rfl | rfl | rfl
    · refine seg_of_ev (E := env_transomref01_among  (transomref01_among.s0 k) (transomref01_among.s1 k) (transomref01_among.s2 k)) (transomref01_among.envok _ _ _  ) ⟨(transomref01_among.is  (transomref01_among.s0 k) (transomref01_among.s1 k) (transomref01_among.s2 k)).rvs⟩ ih ?_
      intro tvs blks res h
      simp only [seg_transomref01_among_0] at h
      split at h
      · refine (transomref01_among.s0_ev  (transomref01_among.s0 k) (transomref01_among.s1 k) (transomref01_among.s2 k) _ _ _ _ _ ).trans ?_
        rw [transomref01_among.s0c_bind]
        exact h
      · simp at h
    · refine seg_of_ev (E := env_transomref01_among  (transomref01_among.s0 k) (transomref01_among.s1 k) (transomref01_among.s2 k)) (transomref01_among.envok _ _ _  ) ⟨(transomref01_among.is  (transomref01_among.s0 k) (transomref01_among.s1 k) (transomref01_among.s2 k)).rvs⟩ ih ?_
      intro tvs blks res h
      simp only [seg_transomref01_among_1] at h
      split at h
      · refine (transomref01_among.s1_ev  (transomref01_among.s0 k) (transomref01_among.s1 k) (transomref01_among.s2 k) _ _ _ _ _ ).trans ?_
        rw [transomref01_among.s1c_bind]
        exact h
      · simp at h
    · refine seg_of_ev (E := env_transomref01_among  (transomref01_among.s0 k) (transomref01_among.s1 k) (transomref01_among.s2 k)) (transomref01_among.envok _ _ _  ) ⟨(transomref01_among.is  (transomref01_among.s0 k) (transomref01_among.s1 k) (transomref01_among.s2 k)).rvs⟩ ih ?_
      intro tvs blks res h
      simp only [seg_transomref01_among_2] at h
      split at h
      · refine (transomref01_among.s2_ev  (transomref01_among.s0 k) (transomref01_among.s1 k) (transomref01_among.s2 k) _ _ _ _ ).trans ?_
        rw [transomref01_among.s2c_bind]
        exact h
      · simp at h
theorem transomref01_among.ok (k : Nat) : CtOK Go.Proofs.Try.prog 65 (ct_transomref01_among (transomref01_among.f k)) := by
  refine ct_of_ev (E := env_transomref01_among  (transomref01_among.s0 k) (transomref01_among.s1 k) (transomref01_among.s2 k)) (transomref01_among.is _ _ _ ) (transomref01_among.envok _ _ _  ) (transomref01_among.segs_ok k) rfl ?_
  intro tvs blks res h
  simp only [ct_transomref01_among] at h
  split at h
  · refine (transomref01_among.ev  (transomref01_among.s0 k) (transomref01_among.s1 k) (transomref01_among.s2 k) _ _ _ ).trans ?_
    rw [transomref01_among.c_bind]
    exact h
  · simp at h
end Go.Proofs.Ytndkobhclggeiaa.Aev
