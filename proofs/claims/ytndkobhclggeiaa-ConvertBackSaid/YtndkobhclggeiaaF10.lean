/- By a program of this session (AEV): functions of the program as plain functions, and that the machine does what they say. -/
import Derived.Test.YtndkobhclggeiaaAevW
import Derived.Test.YtndkobhclggeiaaProg
import Derived.Laws.Externs
import Derived.Lib.Bytealg
import Derived.Test.YtndkobhclggeiaaF6
import Derived.Test.YtndkobhclggeiaaF7
import Derived.Test.YtndkobhclggeiaaF9
namespace Go.Proofs.Ytndkobhclggeiaa.Aev
set_option linter.unusedVariables false
set_option linter.unusedSimpArgs false
set_option maxRecDepth 100000
set_option maxHeartbeats 4000000
open Go
/-! ### transomref02_ToInt: function 48 -/
def ct_transomref02_ToInt (g : Int → Option (Int × Bool)) : Ct where
  nin := 0
  mv := []
  F := fun tvs blks {β} K => match tvs, blks with
    | [.v (.one (.d (.int .u64) a0))], [] => (g a0).bind fun r => K ⟨.tup [(.one (.d (.int .i64) r.1)), (.one (.d .bool r.2))], []⟩
    | _, _ => none
  legit := fun tvs blks K r h => by
    split at h
    · obtain ⟨x, hx, hk⟩ := Option.bind_eq_some_iff.1 h
      refine ⟨_, ?_, hk⟩
      simp only [hx, Option.bind_some]
    · simp at h
def seg_transomref02_ToInt_0 (g : Int → Int → Int → Bool → Option (Int × Bool)) : Seg where
  path := [1, 0, 1, 1, 1, 1, 1, 1]
  prep := []
  keep := [0, 5, 6, 25]
  F := fun tvs blks {β} K => match tvs, blks with
    | [.v (.one (.d (.int .u64) x0)), .v (.one (.d (.int .u64) x1)), .v (.one (.d (.int .i64) x2)), .v (.one (.d .bool x3))], [] => (g x0 x1 x2 x3).bind fun r => K ⟨.tup [(.one (.d (.int .i64) r.1)), (.one (.d .bool r.2))], []⟩
    | _, _ => none
  legit := fun tvs blks K r h => by
    split at h
    · obtain ⟨x, hx, hk⟩ := Option.bind_eq_some_iff.1 h
      refine ⟨_, ?_, hk⟩
      simp only [hx, Option.bind_some]
    · simp at h
def seg_transomref02_ToInt_1 (g : Int → Int → Int → Option (Int × Bool)) : Seg where
  path := [1, 1, 1, 1, 1, 1, 1]
  prep := []
  keep := [0, 5, 6]
  F := fun tvs blks {β} K => match tvs, blks with
    | [.v (.one (.d (.int .u64) x0)), .v (.one (.d (.int .u64) x1)), .v (.one (.d (.int .i64) x2))], [] => (g x0 x1 x2).bind fun r => K ⟨.tup [(.one (.d (.int .i64) r.1)), (.one (.d .bool r.2))], []⟩
    | _, _ => none
  legit := fun tvs blks K r h => by
    split at h
    · obtain ⟨x, hx, hk⟩ := Option.bind_eq_some_iff.1 h
      refine ⟨_, ?_, hk⟩
      simp only [hx, Option.bind_some]
    · simp at h
def seg_transomref02_ToInt_2 (g : Int → Int → Option (Int × Bool)) : Seg where
  path := [1, 1, 1, 1, 1, 1, 1, 1]
  prep := []
  keep := [0, 5]
  F := fun tvs blks {β} K => match tvs, blks with
    | [.v (.one (.d (.int .u64) x0)), .v (.one (.d (.int .u64) x1))], [] => (g x0 x1).bind fun r => K ⟨.tup [(.one (.d (.int .i64) r.1)), (.one (.d .bool r.2))], []⟩
    | _, _ => none
  legit := fun tvs blks K r h => by
    split at h
    · obtain ⟨x, hx, hk⟩ := Option.bind_eq_some_iff.1 h
      refine ⟨_, ?_, hk⟩
      simp only [hx, Option.bind_some]
    · simp at h
noncomputable def env_transomref02_ToInt (g37 : Int → Option Int) (g52 : Int → Option Int) (g53 : Int → Option Int) (s0 : Int → Int → Int → Bool → Option (Int × Bool)) (s1 : Int → Int → Int → Option (Int × Bool)) (s2 : Int → Int → Option (Int × Bool)) : FEnv := { P := Go.Proofs.Try.prog, ct := fun m => if m = 37 then some (ct_transomref02_Class g37) else if m = 52 then some (ct_transomref02_exponent g52) else if m = 53 then some (ct_transomref02_fraction g53) else none, N := 57, body := Go.Proofs.Try.f48.body.getD .skip, rvs := [.tmp 2, .tmp 3], rts := [3, 4], nin := 0, rmv := [], segs := [seg_transomref02_ToInt_0 s0, seg_transomref02_ToInt_1 s1, seg_transomref02_ToInt_2 s2] }
def transomref02_ToInt.c {β : Type} (g37 : Int → Option Int) (g52 : Int → Option Int) (g53 : Int → Option Int) (s0 : Int → Int → Int → Bool → Option (Int × Bool)) (s1 : Int → Int → Int → Option (Int × Bool)) (s2 : Int → Int → Option (Int × Bool)) (a0 : Int) (ret : (Int × Bool) → Option β) : Option β := ((g37 a0).bind fun r0 => (bif (r0 == (3 : Int)) then (ret ((0 : Int), true)) else (bif (r0 != (5 : Int)) then (ret ((0 : Int), false)) else ((g53 a0).bind fun r1 => ((g52 a0).bind fun r2 => (bif (decide ((IntKind.wrap IntKind.i64 ((IntKind.wrap IntKind.i64 (r2 - (1023 : Int))) - (52 : Int))) < (-52 : Int))) then ((s0 a0 (IntKind.wrap IntKind.u64 ((BitVec.toNat ((BitVec.ofInt (64 : Nat) r1) ||| (BitVec.ofInt (64 : Nat) (4503599627370496 : Int)))) : Int)) (IntKind.wrap IntKind.i64 ((IntKind.wrap IntKind.i64 (r2 - (1023 : Int))) - (52 : Int))) true).bind ret) else ((s0 a0 (IntKind.wrap IntKind.u64 ((BitVec.toNat ((BitVec.ofInt (64 : Nat) r1) ||| (BitVec.ofInt (64 : Nat) (4503599627370496 : Int)))) : Int)) (IntKind.wrap IntKind.i64 ((IntKind.wrap IntKind.i64 (r2 - (1023 : Int))) - (52 : Int))) (decide ((IntKind.wrap IntKind.i64 ((IntKind.wrap IntKind.i64 (r2 - (1023 : Int))) - (52 : Int))) > (11 : Int)))).bind ret)))))))
def transomref02_ToInt.s0c {β : Type} (g37 : Int → Option Int) (g52 : Int → Option Int) (g53 : Int → Option Int) (s0 : Int → Int → Int → Bool → Option (Int × Bool)) (s1 : Int → Int → Int → Option (Int × Bool)) (s2 : Int → Int → Option (Int × Bool)) (x0 : Int) (x1 : Int) (x2 : Int) (x3 : Bool) (ret : (Int × Bool) → Option β) : Option β := (bif x3 then (ret ((0 : Int), false)) else ((s1 x0 x1 x2).bind ret))
def transomref02_ToInt.s1c {β : Type} (g37 : Int → Option Int) (g52 : Int → Option Int) (g53 : Int → Option Int) (s0 : Int → Int → Int → Bool → Option (Int × Bool)) (s1 : Int → Int → Int → Option (Int × Bool)) (s2 : Int → Int → Option (Int × Bool)) (x0 : Int) (x1 : Int) (x2 : Int) (ret : (Int × Bool) → Option β) : Option β := (bif (decide (x2 < (0 : Int))) then (bif (decide ((0 : Int) ≤ (IntKind.wrap IntKind.u64 (IntKind.wrap IntKind.i64 ((0 : Int) - x2))))) then (bif ((IntKind.wrap IntKind.u64 ((BitVec.toNat ((BitVec.ofInt (64 : Nat) x1) &&& (BitVec.ofInt (64 : Nat) (IntKind.wrap IntKind.u64 ((IntKind.wrap IntKind.u64 ((1 : Int) * ((2 : Int) ^ (Min.min (Int.toNat (IntKind.wrap IntKind.u64 (IntKind.wrap IntKind.i64 ((0 : Int) - x2)))) (64 : Nat))))) - (1 : Int)))))) : Int)) != (0 : Int)) then (ret ((0 : Int), false)) else (bif (decide ((0 : Int) ≤ (IntKind.wrap IntKind.u64 (IntKind.wrap IntKind.i64 ((0 : Int) - x2))))) then ((s2 x0 (Int.fdiv x1 ((2 : Int) ^ (Min.min (Int.toNat (IntKind.wrap IntKind.u64 (IntKind.wrap IntKind.i64 ((0 : Int) - x2)))) (64 : Nat))))).bind ret) else none)) else none) else (bif (decide ((0 : Int) ≤ (IntKind.wrap IntKind.u64 x2))) then ((s2 x0 (IntKind.wrap IntKind.u64 (x1 * ((2 : Int) ^ (Min.min (Int.toNat (IntKind.wrap IntKind.u64 x2)) (64 : Nat)))))).bind ret) else none))
def transomref02_ToInt.s2c {β : Type} (g37 : Int → Option Int) (g52 : Int → Option Int) (g53 : Int → Option Int) (s0 : Int → Int → Int → Bool → Option (Int × Bool)) (s1 : Int → Int → Int → Option (Int × Bool)) (s2 : Int → Int → Option (Int × Bool)) (x0 : Int) (x1 : Int) (ret : (Int × Bool) → Option β) : Option β := (bif ((Int.fdiv x0 (9223372036854775808 : Int)) == (1 : Int)) then (bif (decide (x1 > (9223372036854775808 : Int))) then (ret ((0 : Int), false)) else (ret ((IntKind.wrap IntKind.i64 (IntKind.wrap IntKind.u64 ((0 : Int) - x1))), true))) else (bif (decide (x1 > (9223372036854775807 : Int))) then (ret ((0 : Int), false)) else (ret ((IntKind.wrap IntKind.i64 x1), true))))
theorem transomref02_ToInt.c_bind {β : Type} (g37 : Int → Option Int) (g52 : Int → Option Int) (g53 : Int → Option Int) (s0 : Int → Int → Int → Bool → Option (Int × Bool)) (s1 : Int → Int → Int → Option (Int × Bool)) (s2 : Int → Int → Option (Int × Bool)) (a0 : Int) (ret : (Int × Bool) → Option β) : transomref02_ToInt.c g37 g52 g53 s0 s1 s2 a0 ret = (transomref02_ToInt.c g37 g52 g53 s0 s1 s2 a0 some).bind ret := by
  simp only [transomref02_ToInt.c, bif_bind, sum_bind, Option.bind_assoc, Option.bind_some, Option.bind_none, Option.bind_fun_some]
theorem transomref02_ToInt.s0c_bind {β : Type} (g37 : Int → Option Int) (g52 : Int → Option Int) (g53 : Int → Option Int) (s0 : Int → Int → Int → Bool → Option (Int × Bool)) (s1 : Int → Int → Int → Option (Int × Bool)) (s2 : Int → Int → Option (Int × Bool)) (x0 : Int) (x1 : Int) (x2 : Int) (x3 : Bool) (ret : (Int × Bool) → Option β) : transomref02_ToInt.s0c g37 g52 g53 s0 s1 s2 x0 x1 x2 x3 ret = (transomref02_ToInt.s0c g37 g52 g53 s0 s1 s2 x0 x1 x2 x3 some).bind ret := by
  simp only [transomref02_ToInt.s0c, bif_bind, sum_bind, Option.bind_assoc, Option.bind_some, Option.bind_none, Option.bind_fun_some]
theorem transomref02_ToInt.s1c_bind {β : Type} (g37 : Int → Option Int) (g52 : Int → Option Int) (g53 : Int → Option Int) (s0 : Int → Int → Int → Bool → Option (Int × Bool)) (s1 : Int → Int → Int → Option (Int × Bool)) (s2 : Int → Int → Option (Int × Bool)) (x0 : Int) (x1 : Int) (x2 : Int) (ret : (Int × Bool) → Option β) : transomref02_ToInt.s1c g37 g52 g53 s0 s1 s2 x0 x1 x2 ret = (transomref02_ToInt.s1c g37 g52 g53 s0 s1 s2 x0 x1 x2 some).bind ret := by
  simp only [transomref02_ToInt.s1c, bif_bind, sum_bind, Option.bind_assoc, Option.bind_some, Option.bind_none, Option.bind_fun_some]
theorem transomref02_ToInt.s2c_bind {β : Type} (g37 : Int → Option Int) (g52 : Int → Option Int) (g53 : Int → Option Int) (s0 : Int → Int → Int → Bool → Option (Int × Bool)) (s1 : Int → Int → Int → Option (Int × Bool)) (s2 : Int → Int → Option (Int × Bool)) (x0 : Int) (x1 : Int) (ret : (Int × Bool) → Option β) : transomref02_ToInt.s2c g37 g52 g53 s0 s1 s2 x0 x1 ret = (transomref02_ToInt.s2c g37 g52 g53 s0 s1 s2 x0 x1 some).bind ret := by
  simp only [transomref02_ToInt.s2c, bif_bind, sum_bind, Option.bind_assoc, Option.bind_some, Option.bind_none, Option.bind_fun_some]
theorem transomref02_ToInt.ev (g37 : Int → Option Int) (g52 : Int → Option Int) (g53 : Int → Option Int) (s0 : Int → Int → Int → Bool → Option (Int × Bool)) (s1 : Int → Int → Int → Option (Int × Bool)) (s2 : Int → Int → Option (Int × Bool)) (a0 : Int) : evAt (env_transomref02_ToInt g37 g52 g53 s0 s1 s2) [] [0] [.v (.one (.d (.int .u64) a0))] [] some = transomref02_ToInt.c g37 g52 g53 s0 s1 s2 a0 (fun r => some ⟨.tup [(.one (.d (.int .i64) r.1)), (.one (.d .bool r.2))], []⟩) := by
  kernel_rfl
theorem transomref02_ToInt.s0_ev (g37 : Int → Option Int) (g52 : Int → Option Int) (g53 : Int → Option Int) (s0 : Int → Int → Int → Bool → Option (Int × Bool)) (s1 : Int → Int → Int → Option (Int × Bool)) (s2 : Int → Int → Option (Int × Bool)) (x0 : Int) (x1 : Int) (x2 : Int) (x3 : Bool) : evAt (env_transomref02_ToInt g37 g52 g53 s0 s1 s2) [1, 0, 1, 1, 1, 1, 1, 1] [0, 5, 6, 25] [.v (.one (.d (.int .u64) x0)), .v (.one (.d (.int .u64) x1)), .v (.one (.d (.int .i64) x2)), .v (.one (.d .bool x3))] [] some = transomref02_ToInt.s0c g37 g52 g53 s0 s1 s2 x0 x1 x2 x3 (fun r => some ⟨.tup [(.one (.d (.int .i64) r.1)), (.one (.d .bool r.2))], []⟩) := by
  kernel_rfl
theorem transomref02_ToInt.s1_ev (g37 : Int → Option Int) (g52 : Int → Option Int) (g53 : Int → Option Int) (s0 : Int → Int → Int → Bool → Option (Int × Bool)) (s1 : Int → Int → Int → Option (Int × Bool)) (s2 : Int → Int → Option (Int × Bool)) (x0 : Int) (x1 : Int) (x2 : Int) : evAt (env_transomref02_ToInt g37 g52 g53 s0 s1 s2) [1, 1, 1, 1, 1, 1, 1] [0, 5, 6] [.v (.one (.d (.int .u64) x0)), .v (.one (.d (.int .u64) x1)), .v (.one (.d (.int .i64) x2))] [] some = transomref02_ToInt.s1c g37 g52 g53 s0 s1 s2 x0 x1 x2 (fun r => some ⟨.tup [(.one (.d (.int .i64) r.1)), (.one (.d .bool r.2))], []⟩) := by
  kernel_rfl
theorem transomref02_ToInt.s2_ev (g37 : Int → Option Int) (g52 : Int → Option Int) (g53 : Int → Option Int) (s0 : Int → Int → Int → Bool → Option (Int × Bool)) (s1 : Int → Int → Int → Option (Int × Bool)) (s2 : Int → Int → Option (Int × Bool)) (x0 : Int) (x1 : Int) : evAt (env_transomref02_ToInt g37 g52 g53 s0 s1 s2) [1, 1, 1, 1, 1, 1, 1, 1] [0, 5] [.v (.one (.d (.int .u64) x0)), .v (.one (.d (.int .u64) x1))] [] some = transomref02_ToInt.s2c g37 g52 g53 s0 s1 s2 x0 x1 (fun r => some ⟨.tup [(.one (.d (.int .i64) r.1)), (.one (.d .bool r.2))], []⟩) := by
  kernel_rfl
mutual
def transomref02_ToInt.s0 : Nat → Int → Int → Int → Bool → Option (Int × Bool)
  | 0, _, _, _, _ => none
  | k + 1, x0, x1, x2, x3 => transomref02_ToInt.s0c (transomref02_Class.f k) (transomref02_exponent.f k) (transomref02_fraction.f k) (transomref02_ToInt.s0 k) (transomref02_ToInt.s1 k) (transomref02_ToInt.s2 k) x0 x1 x2 x3 some
def transomref02_ToInt.s1 : Nat → Int → Int → Int → Option (Int × Bool)
  | 0, _, _, _ => none
  | k + 1, x0, x1, x2 => transomref02_ToInt.s1c (transomref02_Class.f k) (transomref02_exponent.f k) (transomref02_fraction.f k) (transomref02_ToInt.s0 k) (transomref02_ToInt.s1 k) (transomref02_ToInt.s2 k) x0 x1 x2 some
def transomref02_ToInt.s2 : Nat → Int → Int → Option (Int × Bool)
  | 0, _, _ => none
  | k + 1, x0, x1 => transomref02_ToInt.s2c (transomref02_Class.f k) (transomref02_exponent.f k) (transomref02_fraction.f k) (transomref02_ToInt.s0 k) (transomref02_ToInt.s1 k) (transomref02_ToInt.s2 k) x0 x1 some
end
def transomref02_ToInt.f (k : Nat) (a0 : Int) : Option (Int × Bool) := transomref02_ToInt.c (transomref02_Class.f k) (transomref02_exponent.f k) (transomref02_fraction.f k) (transomref02_ToInt.s0 k) (transomref02_ToInt.s1 k) (transomref02_ToInt.s2 k) a0 some
theorem transomref02_ToInt.is (g37 : Int → Option Int) (g52 : Int → Option Int) (g53 : Int → Option Int) (s0 : Int → Int → Int → Bool → Option (Int × Bool)) (s1 : Int → Int → Int → Option (Int × Bool)) (s2 : Int → Int → Option (Int × Bool)) : FnIs (env_transomref02_ToInt g37 g52 g53 s0 s1 s2) 48 Go.Proofs.Try.f48 := ⟨Go.Proofs.Try.func48, rfl, rfl, rfl, by decide⟩
theorem transomref02_ToInt.envok (g37 : Int → Option Int) (g52 : Int → Option Int) (g53 : Int → Option Int) (s0 : Int → Int → Int → Bool → Option (Int × Bool)) (s1 : Int → Int → Int → Option (Int × Bool)) (s2 : Int → Int → Option (Int × Bool)) (h37 : CtOK Go.Proofs.Try.prog 37 (ct_transomref02_Class g37)) (h52 : CtOK Go.Proofs.Try.prog 52 (ct_transomref02_exponent g52)) (h53 : CtOK Go.Proofs.Try.prog 53 (ct_transomref02_fraction g53)) : EnvOK (env_transomref02_ToInt g37 g52 g53 s0 s1 s2).toEnv := by
  intro f c h
  simp only [env_transomref02_ToInt] at h
  split at h
  · rename_i e; subst e; cases h; exact h37
  split at h
  · rename_i e; subst e; cases h; exact h52
  split at h
  · rename_i e; subst e; cases h; exact h53
  simp at h
theorem transomref02_ToInt.segs_ok : ∀ k, ∀ s ∈ (env_transomref02_ToInt (transomref02_Class.f k) (transomref02_exponent.f k) (transomref02_fraction.f k) (transomref02_ToInt.s0 k) (transomref02_ToInt.s1 k) (transomref02_ToInt.s2 k)).segs, SegOK (env_transomref02_ToInt (transomref02_Class.f k) (transomref02_exponent.f k) (transomref02_fraction.f k) (transomref02_ToInt.s0 k) (transomref02_ToInt.s1 k) (transomref02_ToInt.s2 k)) Go.Proofs.Try.f48 s
  | 0 => by
    intro s hs
    simp only [env_transomref02_ToInt, List.mem_cons, List.not_mem_nil, or_false] at hs
    rcases hs with rfl | rfl | rfl
    · intro tvs blks res h; exfalso; simp only [seg_transomref02_ToInt_0] at h; split at h <;> simp [transomref02_ToInt.s0] at h
    · intro tvs blks res h; exfalso; simp only [seg_transomref02_ToInt_1] at h; split at h <;> simp [transomref02_ToInt.s1] at h
    · intro tvs blks res h; exfalso; simp only [seg_transomref02_ToInt_2] at h; split at h <;> simp [transomref02_ToInt.s2] at h
  | k + 1 => by
    have ih := transomref02_ToInt.segs_ok k
    intro s hs
    simp only [env_transomref02_ToInt, List.mem_cons, List.not_mem_nil, or_false] at hs
    rcases hs with rfl | rfl | rfl
    · refine seg_of_ev (E := env_transomref02_ToInt (transomref02_Class.f k) (transomref02_exponent.f k) (transomref02_fraction.f k) (transomref02_ToInt.s0 k) (transomref02_ToInt.s1 k) (transomref02_ToInt.s2 k)) (transomref02_ToInt.envok _ _ _ _ _ _  (transomref02_Class.ok k) (transomref02_exponent.ok k) (transomref02_fraction.ok k)) ⟨(transomref02_ToInt.is (transomref02_Class.f k) (transomref02_exponent.f k) (transomref02_fraction.f k) (transomref02_ToInt.s0 k) (transomref02_ToInt.s1 k) (transomref02_ToInt.s2 k)).rvs⟩ ih ?_
      intro tvs blks res h
      simp only [seg_transomref02_ToInt_0] at h
      split at h
      · refine (transomref02_ToInt.s0_ev (transomref02_Class.f k) (transomref02_exponent.f k) (transomref02_fraction.f k) (transomref02_ToInt.s0 k) (transomref02_ToInt.s1 k) (transomref02_ToInt.s2 k) _ _ _ _ ).trans ?_
        rw [transomref02_ToInt.s0c_bind]
        exact h
      · simp at h
    · refine seg_of_ev (E := env_transomref02_ToInt (transomref02_Class.f k) (transomref02_exponent.f k) (transomref02_fraction.f k) (transomref02_ToInt.s0 k) (transomref02_ToInt.s1 k) (transomref02_ToInt.s2 k)) (transomref02_ToInt.envok _ _ _ _ _ _  (transomref02_Class.ok k) (transomref02_exponent.ok k) (transomref02_fraction.ok k)) ⟨(transomref02_ToInt.is (transomref02_Class.f k) (transomref02_exponent.f k) (transomref02_fraction.f k) (transomref02_ToInt.s0 k) (transomref02_ToInt.s1 k) (transomref02_ToInt.s2 k)).rvs⟩ ih ?_
      intro tvs blks res h
      simp only [seg_transomref02_ToInt_1] at h
      split at h
      · refine (transomref02_ToInt.s1_ev (transomref02_Class.f k) (transomref02_exponent.f k) (transomref02_fraction.f k) (transomref02_ToInt.s0 k) (transomref02_ToInt.s1 k) (transomref02_ToInt.s2 k) _ _ _ ).trans ?_
        rw [transomref02_ToInt.s1c_bind]
        exact h
      · simp at h
    · refine seg_of_ev (E := env_transomref02_ToInt (transomref02_Class.f k) (transomref02_exponent.f k) (transomref02_fraction.f k) (transomref02_ToInt.s0 k) (transomref02_ToInt.s1 k) (transomref02_ToInt.s2 k)) (transomref02_ToInt.envok _ _ _ _ _ _  (transomref02_Class.ok k) (transomref02_exponent.ok k) (transomref02_fraction.ok k)) ⟨(transomref02_ToInt.is (transomref02_Class.f k) (transomref02_exponent.f k) (transomref02_fraction.f k) (transomref02_ToInt.s0 k) (transomref02_ToInt.s1 k) (transomref02_ToInt.s2 k)).rvs⟩ ih ?_
      intro tvs blks res h
      simp only [seg_transomref02_ToInt_2] at h
      split at h
      · refine (transomref02_ToInt.s2_ev (transomref02_Class.f k) (transomref02_exponent.f k) (transomref02_fraction.f k) (transomref02_ToInt.s0 k) (transomref02_ToInt.s1 k) (transomref02_ToInt.s2 k) _ _ ).trans ?_
        rw [transomref02_ToInt.s2c_bind]
        exact h
      · simp at h
theorem transomref02_ToInt.ok (k : Nat) : CtOK Go.Proofs.Try.prog 48 (ct_transomref02_ToInt (transomref02_ToInt.f k)) := by
  refine ct_of_ev (E := env_transomref02_ToInt (transomref02_Class.f k) (transomref02_exponent.f k) (transomref02_fraction.f k) (transomref02_ToInt.s0 k) (transomref02_ToInt.s1 k) (transomref02_ToInt.s2 k)) (transomref02_ToInt.is _ _ _ _ _ _ ) (transomref02_ToInt.envok _ _ _ _ _ _  (transomref02_Class.ok k) (transomref02_exponent.ok k) (transomref02_fraction.ok k)) (transomref02_ToInt.segs_ok k) rfl ?_
  intro tvs blks res h
  simp only [ct_transomref02_ToInt] at h
  split at h
  · refine (transomref02_ToInt.ev (transomref02_Class.f k) (transomref02_exponent.f k) (transomref02_fraction.f k) (transomref02_ToInt.s0 k) (transomref02_ToInt.s1 k) (transomref02_ToInt.s2 k) _ ).trans ?_
    rw [transomref02_ToInt.c_bind]
    exact h
  · simp at h

/-! ### transomref07_fromReal: function 31 -/
def ct_transomref07_fromReal (g : Int → Int → Option (Int × Int × Int × ByteArray × Int)) : Ct where
  nin := 0
  mv := []
  F := fun tvs blks {β} K => match tvs, blks with
    | [.v (.one (.d (.int .u64) a0)), .v (.one (.d (.int .i64) a1))], [] => (g a0 a1).bind fun r => K ⟨.tup [(.agg [(.d (.int .i64) r.1), (.d (.int .i64) r.2.1), (.d (.int .u64) r.2.2.1), (.d .str r.2.2.2.1)]), (.one (.d (.int .i64) r.2.2.2.2))], []⟩
    | _, _ => none
  legit := fun tvs blks K r h => by
    split at h
    · obtain ⟨x, hx, hk⟩ := Option.bind_eq_some_iff.1 h
      refine ⟨_, ?_, hk⟩
      simp only [hx, Option.bind_some]
    · simp at h
noncomputable def env_transomref07_fromReal (g46 : Int → Option (Int × Int × Int × ByteArray × Int)) (g47 : Int → Option ByteArray) (g48 : Int → Option (Int × Bool))  : FEnv := { P := Go.Proofs.Try.prog, ct := fun m => if m = 46 then some (ct_transomref07_truth g46) else if m = 47 then some (ct_transomref05_Eight g47) else if m = 48 then some (ct_transomref02_ToInt g48) else none, N := 31, body := Go.Proofs.Try.f31.body.getD .skip, rvs := [.cell 4 24, .tmp 5], rts := [24, 3], nin := 0, rmv := [], segs := [] }
def transomref07_fromReal.c {β : Type} (g46 : Int → Option (Int × Int × Int × ByteArray × Int)) (g47 : Int → Option ByteArray) (g48 : Int → Option (Int × Bool))  (a0 : Int) (a1 : Int) (ret : (Int × Int × Int × ByteArray × Int) → Option β) : Option β := (bif (a1 == (4 : Int)) then ((g47 a0).bind fun r0 => (ret (a1, (0 : Int), (0 : Int), r0, (0 : Int)))) else ((g48 a0).bind fun r1 => (bif (!r1.2) then (ret ((0 : Int), (0 : Int), (0 : Int), (ByteArray.mk (List.toArray [])), (6 : Int))) else (bif (a1 == (1 : Int)) then ((g46 r1.1).bind fun r2 => (ret (r2.1, r2.2.1, r2.2.2.1, r2.2.2.2.1, r2.2.2.2.2))) else (ret (a1, r1.1, (0 : Int), (ByteArray.mk (List.toArray [])), (0 : Int)))))))
theorem transomref07_fromReal.c_bind {β : Type} (g46 : Int → Option (Int × Int × Int × ByteArray × Int)) (g47 : Int → Option ByteArray) (g48 : Int → Option (Int × Bool))  (a0 : Int) (a1 : Int) (ret : (Int × Int × Int × ByteArray × Int) → Option β) : transomref07_fromReal.c g46 g47 g48  a0 a1 ret = (transomref07_fromReal.c g46 g47 g48  a0 a1 some).bind ret := by
  simp only [transomref07_fromReal.c, bif_bind, sum_bind, Option.bind_assoc, Option.bind_some, Option.bind_none, Option.bind_fun_some]
theorem transomref07_fromReal.ev (g46 : Int → Option (Int × Int × Int × ByteArray × Int)) (g47 : Int → Option ByteArray) (g48 : Int → Option (Int × Bool))  (a0 : Int) (a1 : Int) : evAt (env_transomref07_fromReal g46 g47 g48 ) [] [0, 1] [.v (.one (.d (.int .u64) a0)), .v (.one (.d (.int .i64) a1))] [] some = transomref07_fromReal.c g46 g47 g48  a0 a1 (fun r => some ⟨.tup [(.agg [(.d (.int .i64) r.1), (.d (.int .i64) r.2.1), (.d (.int .u64) r.2.2.1), (.d .str r.2.2.2.1)]), (.one (.d (.int .i64) r.2.2.2.2))], []⟩) := by
  kernel_rfl
def transomref07_fromReal.f (k : Nat) (a0 : Int) (a1 : Int) : Option (Int × Int × Int × ByteArray × Int) := transomref07_fromReal.c (transomref07_truth.f k) (transomref05_Eight.f k) (transomref02_ToInt.f k)  a0 a1 some
theorem transomref07_fromReal.is (g46 : Int → Option (Int × Int × Int × ByteArray × Int)) (g47 : Int → Option ByteArray) (g48 : Int → Option (Int × Bool))  : FnIs (env_transomref07_fromReal g46 g47 g48 ) 31 Go.Proofs.Try.f31 := ⟨Go.Proofs.Try.func31, rfl, rfl, rfl, by decide⟩
theorem transomref07_fromReal.envok (g46 : Int → Option (Int × Int × Int × ByteArray × Int)) (g47 : Int → Option ByteArray) (g48 : Int → Option (Int × Bool))  (h46 : CtOK Go.Proofs.Try.prog 46 (ct_transomref07_truth g46)) (h47 : CtOK Go.Proofs.Try.prog 47 (ct_transomref05_Eight g47)) (h48 : CtOK Go.Proofs.Try.prog 48 (ct_transomref02_ToInt g48)) : EnvOK (env_transomref07_fromReal g46 g47 g48 ).toEnv := by
  intro f c h
  simp only [env_transomref07_fromReal] at h
  split at h
  · rename_i e; subst e; cases h; exact h46
  split at h
  · rename_i e; subst e; cases h; exact h47
  split at h
  · rename_i e; subst e; cases h; exact h48
  simp at h
theorem transomref07_fromReal.ok (k : Nat) : CtOK Go.Proofs.Try.prog 31 (ct_transomref07_fromReal (transomref07_fromReal.f k)) := by
  refine ct_of_ev (E := env_transomref07_fromReal (transomref07_truth.f k) (transomref05_Eight.f k) (transomref02_ToInt.f k) ) (transomref07_fromReal.is _ _ _ ) (transomref07_fromReal.envok _ _ _  (transomref07_truth.ok k) (transomref05_Eight.ok k) (transomref02_ToInt.ok k)) (fun s hs => by simp [env_transomref07_fromReal] at hs) rfl ?_
  intro tvs blks res h
  simp only [ct_transomref07_fromReal] at h
  split at h
  · refine (transomref07_fromReal.ev (transomref07_truth.f k) (transomref05_Eight.f k) (transomref02_ToInt.f k)  _ _ ).trans ?_
    rw [transomref07_fromReal.c_bind]
    exact h
  · simp at h

/-! ### transomref05_Number: function 49 -/
def ct_transomref05_Number (g : ByteArray → Option Int) : Ct where
  nin := 0
  mv := []
  F := fun tvs blks {β} K => match tvs, blks with
    | [.v (.one (.d .str a0))], [] => (g a0).bind fun r => K ⟨.v (.one (.d (.int .u64) r)), []⟩
    | _, _ => none
  legit := fun tvs blks K r h => by
    split at h
    · obtain ⟨x, hx, hk⟩ := Option.bind_eq_some_iff.1 h
      refine ⟨_, ?_, hk⟩
      simp only [hx, Option.bind_some]
    · simp at h
def seg_transomref05_Number_0 (g : ByteArray → Int → Int → Option Int) : Seg where
  path := [4, 1, 0, 1, 1]
  prep := []
  keep := [0, 3, 4]
  F := fun tvs blks {β} K => match tvs, blks with
    | [.v (.one (.d .str x0)), .v (.one (.d (.int .u64) x1)), .v (.one (.d (.int .i64) x2))], [] => (g x0 x1 x2).bind fun r => K ⟨.v (.one (.d (.int .u64) r)), []⟩
    | _, _ => none
  legit := fun tvs blks K r h => by
    split at h
    · obtain ⟨x, hx, hk⟩ := Option.bind_eq_some_iff.1 h
      refine ⟨_, ?_, hk⟩
      simp only [hx, Option.bind_some]
    · simp at h
noncomputable def env_transomref05_Number  (s0 : ByteArray → Int → Int → Option Int) : FEnv := { P := Go.Proofs.Try.prog, ct := fun m => none, N := 17, body := Go.Proofs.Try.f49.body.getD .skip, rvs := [.tmp 2], rts := [22], nin := 0, rmv := [], segs := [seg_transomref05_Number_0 s0] }
def transomref05_Number.c {β : Type}  (s0 : ByteArray → Int → Int → Option Int) (a0 : ByteArray) (ret : Int → Option β) : Option β := ((s0 a0 (0 : Int) (0 : Int)).bind ret)
def transomref05_Number.s0c {β : Type}  (s0 : ByteArray → Int → Int → Option Int) (x0 : ByteArray) (x1 : Int) (x2 : Int) (ret : Int → Option β) : Option β := (bif (decide (x2 < (8 : Int))) then (bif ((decide ((0 : Int) ≤ x2)) && (decide (x2 < ((ByteArray.size x0) : Int)))) then ((s0 x0 (IntKind.wrap IntKind.u64 ((BitVec.toNat ((BitVec.ofInt (64 : Nat) (IntKind.wrap IntKind.u64 (x1 * (256 : Int)))) ||| (BitVec.ofInt (64 : Nat) (IntKind.wrap IntKind.u64 (bt x0 x2))))) : Int)) (IntKind.wrap IntKind.i64 (x2 + (1 : Int)))).bind ret) else none) else (ret (x1)))
theorem transomref05_Number.c_bind {β : Type}  (s0 : ByteArray → Int → Int → Option Int) (a0 : ByteArray) (ret : Int → Option β) : transomref05_Number.c  s0 a0 ret = (transomref05_Number.c  s0 a0 some).bind ret := by
  simp only [transomref05_Number.c, bif_bind, sum_bind, Option.bind_assoc, Option.bind_some, Option.bind_none, Option.bind_fun_some]
theorem transomref05_Number.s0c_bind {β : Type}  (s0 : ByteArray → Int → Int → Option Int) (x0 : ByteArray) (x1 : Int) (x2 : Int) (ret : Int → Option β) : transomref05_Number.s0c  s0 x0 x1 x2 ret = (transomref05_Number.s0c  s0 x0 x1 x2 some).bind ret := by
  simp only [transomref05_Number.s0c, bif_bind, sum_bind, Option.bind_assoc, Option.bind_some, Option.bind_none, Option.bind_fun_some]
theorem transomref05_Number.ev  (s0 : ByteArray → Int → Int → Option Int) (a0 : ByteArray) : evAt (env_transomref05_Number  s0) [] [0] [.v (.one (.d .str a0))] [] some = transomref05_Number.c  s0 a0 (fun r => some ⟨.v (.one (.d (.int .u64) r)), []⟩) := by
  kernel_rfl
theorem transomref05_Number.s0_ev  (s0 : ByteArray → Int → Int → Option Int) (x0 : ByteArray) (x1 : Int) (x2 : Int) : evAt (env_transomref05_Number  s0) [4, 1, 0, 1, 1] [0, 3, 4] [.v (.one (.d .str x0)), .v (.one (.d (.int .u64) x1)), .v (.one (.d (.int .i64) x2))] [] some = transomref05_Number.s0c  s0 x0 x1 x2 (fun r => some ⟨.v (.one (.d (.int .u64) r)), []⟩) := by
  kernel_rfl
def transomref05_Number.s0 : Nat → ByteArray → Int → Int → Option Int
  | 0, _, _, _ => none
  | k + 1, x0, x1, x2 => transomref05_Number.s0c  (transomref05_Number.s0 k) x0 x1 x2 some
def transomref05_Number.f (k : Nat) (a0 : ByteArray) : Option Int := transomref05_Number.c  (transomref05_Number.s0 k) a0 some
theorem transomref05_Number.is  (s0 : ByteArray → Int → Int → Option Int) : FnIs (env_transomref05_Number  s0) 49 Go.Proofs.Try.f49 := ⟨Go.Proofs.Try.func49, rfl, rfl, rfl, by decide⟩
theorem transomref05_Number.envok  (s0 : ByteArray → Int → Int → Option Int)  : EnvOK (env_transomref05_Number  s0).toEnv := by
  intro f c h
  simp only [env_transomref05_Number] at h
  simp at h
theorem transomref05_Number.segs_ok : ∀ k, ∀ s ∈ (env_transomref05_Number  (transomref05_Number.s0 k)).segs, SegOK (env_transomref05_Number  (transomref05_Number.s0 k)) Go.Proofs.Try.f49 s
  | 0 => by
    intro s hs
    simp only [env_transomref05_Number, List.mem_cons, List.not_mem_nil, or_false] at hs
    rcases hs with rfl
    · intro tvs blks res h; exfalso; simp only [seg_transomref05_Number_0] at h; split at h <;> simp [transomref05_Number.s0] at h
  | k + 1 => by
    have ih := transomref05_Number.segs_ok k
    intro s hs
    simp only [env_transomref05_Number, List.mem_cons, List.not_mem_nil, or_false] at hs
    rcases hs with rfl
    · refine seg_of_ev (E := env_transomref05_Number  (transomref05_Number.s0 k)) (transomref05_Number.envok _  ) ⟨(transomref05_Number.is  (transomref05_Number.s0 k)).rvs⟩ ih ?_
      intro tvs blks res h
      simp only [seg_transomref05_Number_0] at h
      split at h
      · refine (transomref05_Number.s0_ev  (transomref05_Number.s0 k) _ _ _ ).trans ?_
        rw [transomref05_Number.s0c_bind]
        exact h
      · simp at h
theorem transomref05_Number.ok (k : Nat) : CtOK Go.Proofs.Try.prog 49 (ct_transomref05_Number (transomref05_Number.f k)) := by
  refine ct_of_ev (E := env_transomref05_Number  (transomref05_Number.s0 k)) (transomref05_Number.is _ ) (transomref05_Number.envok _  ) (transomref05_Number.segs_ok k) rfl ?_
  intro tvs blks res h
  simp only [ct_transomref05_Number] at h
  split at h
  · refine (transomref05_Number.ev  (transomref05_Number.s0 k) _ ).trans ?_
    rw [transomref05_Number.c_bind]
    exact h
  · simp at h

/-! ### transomref07_fromBytes: function 32 -/
def ct_transomref07_fromBytes (g : ByteArray → Int → Option (Int × Int × Int × ByteArray × Int)) : Ct where
  nin := 0
  mv := []
  F := fun tvs blks {β} K => match tvs, blks with
    | [.v (.one (.d .str a0)), .v (.one (.d (.int .i64) a1))], [] => (g a0 a1).bind fun r => K ⟨.tup [(.agg [(.d (.int .i64) r.1), (.d (.int .i64) r.2.1), (.d (.int .u64) r.2.2.1), (.d .str r.2.2.2.1)]), (.one (.d (.int .i64) r.2.2.2.2))], []⟩
    | _, _ => none
  legit := fun tvs blks K r h => by
    split at h
    · obtain ⟨x, hx, hk⟩ := Option.bind_eq_some_iff.1 h
      refine ⟨_, ?_, hk⟩
      simp only [hx, Option.bind_some]
    · simp at h
noncomputable def env_transomref07_fromBytes (g43 : Int → Option Int) (g44 : ByteArray → Option Bool) (g49 : ByteArray → Option Int)  : FEnv := { P := Go.Proofs.Try.prog, ct := fun m => if m = 43 then some (ct_transomref02_Canon g43) else if m = 44 then some (ct_transomref01_Valid g44) else if m = 49 then some (ct_transomref05_Number g49) else none, N := 31, body := Go.Proofs.Try.f32.body.getD .skip, rvs := [.cell 4 24, .tmp 5], rts := [24, 3], nin := 0, rmv := [], segs := [] }
def transomref07_fromBytes.c {β : Type} (g43 : Int → Option Int) (g44 : ByteArray → Option Bool) (g49 : ByteArray → Option Int)  (a0 : ByteArray) (a1 : Int) (ret : (Int × Int × Int × ByteArray × Int) → Option β) : Option β := (bif (a1 == (5 : Int)) then ((g44 a0).bind fun r0 => (bif (!r0) then (ret ((0 : Int), (0 : Int), (0 : Int), (ByteArray.mk (List.toArray [])), (7 : Int))) else (ret (a1, (0 : Int), (0 : Int), a0, (0 : Int))))) else (bif (((ByteArray.size a0) : Int) != (8 : Int)) then (ret ((0 : Int), (0 : Int), (0 : Int), (ByteArray.mk (List.toArray [])), (6 : Int))) else (bif (a1 == (3 : Int)) then ((g49 a0).bind fun r1 => ((g43 r1).bind fun r2 => (ret (a1, (0 : Int), r2, (ByteArray.mk (List.toArray [])), (0 : Int))))) else ((g49 a0).bind fun r3 => (ret (a1, (IntKind.wrap IntKind.i64 r3), (0 : Int), (ByteArray.mk (List.toArray [])), (0 : Int)))))))
theorem transomref07_fromBytes.c_bind {β : Type} (g43 : Int → Option Int) (g44 : ByteArray → Option Bool) (g49 : ByteArray → Option Int)  (a0 : ByteArray) (a1 : Int) (ret : (Int × Int × Int × ByteArray × Int) → Option β) : transomref07_fromBytes.c g43 g44 g49  a0 a1 ret = (transomref07_fromBytes.c g43 g44 g49  a0 a1 some).bind ret := by
  simp only [transomref07_fromBytes.c, bif_bind, sum_bind, Option.bind_assoc, Option.bind_some, Option.bind_none, Option.bind_fun_some]
theorem transomref07_fromBytes.ev (g43 : Int → Option Int) (g44 : ByteArray → Option Bool) (g49 : ByteArray → Option Int)  (a0 : ByteArray) (a1 : Int) : evAt (env_transomref07_fromBytes g43 g44 g49 ) [] [0, 1] [.v (.one (.d .str a0)), .v (.one (.d (.int .i64) a1))] [] some = transomref07_fromBytes.c g43 g44 g49  a0 a1 (fun r => some ⟨.tup [(.agg [(.d (.int .i64) r.1), (.d (.int .i64) r.2.1), (.d (.int .u64) r.2.2.1), (.d .str r.2.2.2.1)]), (.one (.d (.int .i64) r.2.2.2.2))], []⟩) := by
  kernel_rfl
def transomref07_fromBytes.f (k : Nat) (a0 : ByteArray) (a1 : Int) : Option (Int × Int × Int × ByteArray × Int) := transomref07_fromBytes.c (transomref02_Canon.f k) (transomref01_Valid.f k) (transomref05_Number.f k)  a0 a1 some
theorem transomref07_fromBytes.is (g43 : Int → Option Int) (g44 : ByteArray → Option Bool) (g49 : ByteArray → Option Int)  : FnIs (env_transomref07_fromBytes g43 g44 g49 ) 32 Go.Proofs.Try.f32 := ⟨Go.Proofs.Try.func32, rfl, rfl, rfl, by decide⟩
theorem transomref07_fromBytes.envok (g43 : Int → Option Int) (g44 : ByteArray → Option Bool) (g49 : ByteArray → Option Int)  (h43 : CtOK Go.Proofs.Try.prog 43 (ct_transomref02_Canon g43)) (h44 : CtOK Go.Proofs.Try.prog 44 (ct_transomref01_Valid g44)) (h49 : CtOK Go.Proofs.Try.prog 49 (ct_transomref05_Number g49)) : EnvOK (env_transomref07_fromBytes g43 g44 g49 ).toEnv := by
  intro f c h
  simp only [env_transomref07_fromBytes] at h
  split at h
  · rename_i e; subst e; cases h; exact h43
  split at h
  · rename_i e; subst e; cases h; exact h44
  split at h
  · rename_i e; subst e; cases h; exact h49
  simp at h
theorem transomref07_fromBytes.ok (k : Nat) : CtOK Go.Proofs.Try.prog 32 (ct_transomref07_fromBytes (transomref07_fromBytes.f k)) := by
  refine ct_of_ev (E := env_transomref07_fromBytes (transomref02_Canon.f k) (transomref01_Valid.f k) (transomref05_Number.f k) ) (transomref07_fromBytes.is _ _ _ ) (transomref07_fromBytes.envok _ _ _  (transomref02_Canon.ok k) (transomref01_Valid.ok k) (transomref05_Number.ok k)) (fun s hs => by simp [env_transomref07_fromBytes] at hs) rfl ?_
  intro tvs blks res h
  simp only [ct_transomref07_fromBytes] at h
  split at h
  · refine (transomref07_fromBytes.ev (transomref02_Canon.f k) (transomref01_Valid.f k) (transomref05_Number.f k)  _ _ ).trans ?_
    rw [transomref07_fromBytes.c_bind]
    exact h
  · simp at h
end Go.Proofs.Ytndkobhclggeiaa.Aev
