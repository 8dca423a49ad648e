/- By a program of this session (AEV): functions of the program as plain functions, and that the machine does what they say. -/
import Derived.Test.YtndkobhclggeiaaAevW
import Derived.Test.YtndkobhclggeiaaProg
import Derived.Laws.Externs
import Derived.Lib.Bytealg
namespace Go.Proofs.Ytndkobhclggeiaa.Aev
set_option linter.unusedVariables false
set_option linter.unusedSimpArgs false
set_option maxRecDepth 100000
set_option maxHeartbeats 4000000
open Go
/-! ### transomref02_FromInt: function 45 -/
def ct_transomref02_FromInt (g : Int → Option (Int × Bool)) : Ct where
  nin := 0
  mv := []
  F := fun tvs blks {β} K => match tvs, blks with
    | [.v (.one (.d (.int .i64) a0))], [] => (g a0).bind fun r => K ⟨.tup [(.one (.d (.int .u64) r.1)), (.one (.d .bool r.2))], []⟩
    | _, _ => none
  legit := fun tvs blks K r h => by
    split at h
    · obtain ⟨x, hx, hk⟩ := Option.bind_eq_some_iff.1 h
      refine ⟨_, ?_, hk⟩
      simp only [hx, Option.bind_some]
    · simp at h
def seg_transomref02_FromInt_0 (g : Int → Int → Option (Int × Bool)) : Seg where
  path := [1, 1, 1, 1, 1]
  prep := []
  keep := [4, 5]
  F := fun tvs blks {β} K => match tvs, blks with
    | [.v (.one (.d (.int .u64) x0)), .v (.one (.d (.int .u64) x1))], [] => (g x0 x1).bind fun r => K ⟨.tup [(.one (.d (.int .u64) r.1)), (.one (.d .bool r.2))], []⟩
    | _, _ => none
  legit := fun tvs blks K r h => by
    split at h
    · obtain ⟨x, hx, hk⟩ := Option.bind_eq_some_iff.1 h
      refine ⟨_, ?_, hk⟩
      simp only [hx, Option.bind_some]
    · simp at h
def seg_transomref02_FromInt_1 (g : Int → Int → Int → Int → Option (Int × Bool)) : Seg where
  path := [4, 1, 0, 1, 1, 1, 1, 1, 1]
  prep := []
  keep := [4, 5, 6, 7]
  F := fun tvs blks {β} K => match tvs, blks with
    | [.v (.one (.d (.int .u64) x0)), .v (.one (.d (.int .u64) x1)), .v (.one (.d (.int .i64) x2)), .v (.one (.d (.int .i64) x3))], [] => (g x0 x1 x2 x3).bind fun r => K ⟨.tup [(.one (.d (.int .u64) r.1)), (.one (.d .bool r.2))], []⟩
    | _, _ => none
  legit := fun tvs blks K r h => by
    split at h
    · obtain ⟨x, hx, hk⟩ := Option.bind_eq_some_iff.1 h
      refine ⟨_, ?_, hk⟩
      simp only [hx, Option.bind_some]
    · simp at h
def seg_transomref02_FromInt_2 (g : Int → Int → Int → Int → Option (Int × Bool)) : Seg where
  path := [1, 1, 5, 4, 1, 0, 1, 1, 1, 1, 1, 1]
  prep := []
  keep := [4, 5, 6, 7]
  F := fun tvs blks {β} K => match tvs, blks with
    | [.v (.one (.d (.int .u64) x0)), .v (.one (.d (.int .u64) x1)), .v (.one (.d (.int .i64) x2)), .v (.one (.d (.int .i64) x3))], [] => (g x0 x1 x2 x3).bind fun r => K ⟨.tup [(.one (.d (.int .u64) r.1)), (.one (.d .bool r.2))], []⟩
    | _, _ => none
  legit := fun tvs blks K r h => by
    split at h
    · obtain ⟨x, hx, hk⟩ := Option.bind_eq_some_iff.1 h
      refine ⟨_, ?_, hk⟩
      simp only [hx, Option.bind_some]
    · simp at h
noncomputable def env_transomref02_FromInt  (s0 : Int → Int → Option (Int × Bool)) (s1 : Int → Int → Int → Int → Option (Int × Bool)) (s2 : Int → Int → Int → Int → Option (Int × Bool)) : FEnv := { P := Go.Proofs.Try.prog, ct := fun m => none, N := 58, body := Go.Proofs.Try.f45.body.getD .skip, rvs := [.tmp 2, .tmp 3], rts := [22, 4], nin := 0, rmv := [], segs := [seg_transomref02_FromInt_0 s0, seg_transomref02_FromInt_1 s1, seg_transomref02_FromInt_2 s2] }
def transomref02_FromInt.c {β : Type}  (s0 : Int → Int → Option (Int × Bool)) (s1 : Int → Int → Int → Int → Option (Int × Bool)) (s2 : Int → Int → Int → Int → Option (Int × Bool)) (a0 : Int) (ret : (Int × Bool) → Option β) : Option β := (bif (a0 == (0 : Int)) then (ret ((0 : Int), true)) else (bif (decide (a0 < (0 : Int))) then ((s0 (9223372036854775808 : Int) (IntKind.wrap IntKind.u64 ((0 : Int) - (IntKind.wrap IntKind.u64 a0)))).bind ret) else ((s0 (0 : Int) (IntKind.wrap IntKind.u64 a0)).bind ret)))
def transomref02_FromInt.s0c {β : Type}  (s0 : Int → Int → Option (Int × Bool)) (s1 : Int → Int → Int → Int → Option (Int × Bool)) (s2 : Int → Int → Int → Int → Option (Int × Bool)) (x0 : Int) (x1 : Int) (ret : (Int × Bool) → Option β) : Option β := ((s1 x0 x1 (0 : Int) (0 : Int)).bind ret)
def transomref02_FromInt.s1c {β : Type}  (s0 : Int → Int → Option (Int × Bool)) (s1 : Int → Int → Int → Int → Option (Int × Bool)) (s2 : Int → Int → Int → Int → Option (Int × Bool)) (x0 : Int) (x1 : Int) (x2 : Int) (x3 : Int) (ret : (Int × Bool) → Option β) : Option β := (bif (decide (x3 < (64 : Int))) then (bif (decide ((0 : Int) ≤ (IntKind.wrap IntKind.u64 x3))) then (bif ((IntKind.wrap IntKind.u64 ((BitVec.toNat ((BitVec.ofInt (64 : Nat) (Int.fdiv x1 ((2 : Int) ^ (Min.min (Int.toNat (IntKind.wrap IntKind.u64 x3)) (64 : Nat))))) &&& (BitVec.ofInt (64 : Nat) (1 : Int)))) : Int)) == (1 : Int)) then ((s2 x0 x1 x3 x3).bind ret) else ((s2 x0 x1 x2 x3).bind ret)) else none) else (bif (decide (x2 > (52 : Int))) then (bif (decide ((0 : Int) ≤ (IntKind.wrap IntKind.u64 (IntKind.wrap IntKind.i64 (x2 - (52 : Int)))))) then (bif ((IntKind.wrap IntKind.u64 ((BitVec.toNat ((BitVec.ofInt (64 : Nat) x1) &&& (BitVec.ofInt (64 : Nat) (IntKind.wrap IntKind.u64 ((IntKind.wrap IntKind.u64 ((1 : Int) * ((2 : Int) ^ (Min.min (Int.toNat (IntKind.wrap IntKind.u64 (IntKind.wrap IntKind.i64 (x2 - (52 : Int))))) (64 : Nat))))) - (1 : Int)))))) : Int)) != (0 : Int)) then (ret ((0 : Int), false)) else (bif (decide ((0 : Int) ≤ (IntKind.wrap IntKind.u64 (IntKind.wrap IntKind.i64 (x2 - (52 : Int)))))) then (ret ((IntKind.wrap IntKind.u64 ((BitVec.toNat ((BitVec.ofInt (64 : Nat) (IntKind.wrap IntKind.u64 ((BitVec.toNat ((BitVec.ofInt (64 : Nat) x0) ||| (BitVec.ofInt (64 : Nat) (IntKind.wrap IntKind.u64 ((IntKind.wrap IntKind.u64 (IntKind.wrap IntKind.i64 (x2 + (1023 : Int)))) * (4503599627370496 : Int)))))) : Int))) ||| (BitVec.ofInt (64 : Nat) (IntKind.wrap IntKind.u64 ((BitVec.toNat ((BitVec.ofInt (64 : Nat) (Int.fdiv x1 ((2 : Int) ^ (Min.min (Int.toNat (IntKind.wrap IntKind.u64 (IntKind.wrap IntKind.i64 (x2 - (52 : Int))))) (64 : Nat))))) &&& (BitVec.ofInt (64 : Nat) (4503599627370495 : Int)))) : Int))))) : Int)), true)) else none)) else none) else (bif (decide ((0 : Int) ≤ (IntKind.wrap IntKind.u64 (IntKind.wrap IntKind.i64 ((52 : Int) - x2))))) then (ret ((IntKind.wrap IntKind.u64 ((BitVec.toNat ((BitVec.ofInt (64 : Nat) (IntKind.wrap IntKind.u64 ((BitVec.toNat ((BitVec.ofInt (64 : Nat) x0) ||| (BitVec.ofInt (64 : Nat) (IntKind.wrap IntKind.u64 ((IntKind.wrap IntKind.u64 (IntKind.wrap IntKind.i64 (x2 + (1023 : Int)))) * (4503599627370496 : Int)))))) : Int))) ||| (BitVec.ofInt (64 : Nat) (IntKind.wrap IntKind.u64 ((BitVec.toNat ((BitVec.ofInt (64 : Nat) (IntKind.wrap IntKind.u64 (x1 * ((2 : Int) ^ (Min.min (Int.toNat (IntKind.wrap IntKind.u64 (IntKind.wrap IntKind.i64 ((52 : Int) - x2)))) (64 : Nat)))))) &&& (BitVec.ofInt (64 : Nat) (4503599627370495 : Int)))) : Int))))) : Int)), true)) else none)))
def transomref02_FromInt.s2c {β : Type}  (s0 : Int → Int → Option (Int × Bool)) (s1 : Int → Int → Int → Int → Option (Int × Bool)) (s2 : Int → Int → Int → Int → Option (Int × Bool)) (x0 : Int) (x1 : Int) (x2 : Int) (x3 : Int) (ret : (Int × Bool) → Option β) : Option β := ((s1 x0 x1 x2 (IntKind.wrap IntKind.i64 (x3 + (1 : Int)))).bind ret)
theorem transomref02_FromInt.c_bind {β : Type}  (s0 : Int → Int → Option (Int × Bool)) (s1 : Int → Int → Int → Int → Option (Int × Bool)) (s2 : Int → Int → Int → Int → Option (Int × Bool)) (a0 : Int) (ret : (Int × Bool) → Option β) : transomref02_FromInt.c  s0 s1 s2 a0 ret = (transomref02_FromInt.c  s0 s1 s2 a0 some).bind ret := by
  simp only [transomref02_FromInt.c, bif_bind, sum_bind, Option.bind_assoc, Option.bind_some, Option.bind_none, Option.bind_fun_some]
theorem transomref02_FromInt.s0c_bind {β : Type}  (s0 : Int → Int → Option (Int × Bool)) (s1 : Int → Int → Int → Int → Option (Int × Bool)) (s2 : Int → Int → Int → Int → Option (Int × Bool)) (x0 : Int) (x1 : Int) (ret : (Int × Bool) → Option β) : transomref02_FromInt.s0c  s0 s1 s2 x0 x1 ret = (transomref02_FromInt.s0c  s0 s1 s2 x0 x1 some).bind ret := by
  simp only [transomref02_FromInt.s0c, bif_bind, sum_bind, Option.bind_assoc, Option.bind_some, Option.bind_none, Option.bind_fun_some]
theorem transomref02_FromInt.s1c_bind {β : Type}  (s0 : Int → Int → Option (Int × Bool)) (s1 : Int → Int → Int → Int → Option (Int × Bool)) (s2 : Int → Int → Int → Int → Option (Int × Bool)) (x0 : Int) (x1 : Int) (x2 : Int) (x3 : Int) (ret : (Int × Bool) → Option β) : transomref02_FromInt.s1c  s0 s1 s2 x0 x1 x2 x3 ret = (transomref02_FromInt.s1c  s0 s1 s2 x0 x1 x2 x3 some).bind ret := by
  simp only [transomref02_FromInt.s1c, bif_bind, sum_bind, Option.bind_assoc, Option.bind_some, Option.bind_none, Option.bind_fun_some]
theorem transomref02_FromInt.s2c_bind {β : Type}  (s0 : Int → Int → Option (Int × Bool)) (s1 : Int → Int → Int → Int → Option (Int × Bool)) (s2 : Int → Int → Int → Int → Option (Int × Bool)) (x0 : Int) (x1 : Int) (x2 : Int) (x3 : Int) (ret : (Int × Bool) → Option β) : transomref02_FromInt.s2c  s0 s1 s2 x0 x1 x2 x3 ret = (transomref02_FromInt.s2c  s0 s1 s2 x0 x1 x2 x3 some).bind ret := by
  simp only [transomref02_FromInt.s2c, bif_bind, sum_bind, Option.bind_assoc, Option.bind_some, Option.bind_none, Option.bind_fun_some]
theorem transomref02_FromInt.ev  (s0 : Int → Int → Option (Int × Bool)) (s1 : Int → Int → Int → Int → Option (Int × Bool)) (s2 : Int → Int → Int → Int → Option (Int × Bool)) (a0 : Int) : evAt (env_transomref02_FromInt  s0 s1 s2) [] [0] [.v (.one (.d (.int .i64) a0))] [] some = transomref02_FromInt.c  s0 s1 s2 a0 (fun r => some ⟨.tup [(.one (.d (.int .u64) r.1)), (.one (.d .bool r.2))], []⟩) := by
  kernel_rfl
theorem transomref02_FromInt.s0_ev  (s0 : Int → Int → Option (Int × Bool)) (s1 : Int → Int → Int → Int → Option (Int × Bool)) (s2 : Int → Int → Int → Int → Option (Int × Bool)) (x0 : Int) (x1 : Int) : evAt (env_transomref02_FromInt  s0 s1 s2) [1, 1, 1, 1, 1] [4, 5] [.v (.one (.d (.int .u64) x0)), .v (.one (.d (.int .u64) x1))] [] some = transomref02_FromInt.s0c  s0 s1 s2 x0 x1 (fun r => some ⟨.tup [(.one (.d (.int .u64) r.1)), (.one (.d .bool r.2))], []⟩) := by
  kernel_rfl
theorem transomref02_FromInt.s1_ev  (s0 : Int → Int → Option (Int × Bool)) (s1 : Int → Int → Int → Int → Option (Int × Bool)) (s2 : Int → Int → Int → Int → Option (Int × Bool)) (x0 : Int) (x1 : Int) (x2 : Int) (x3 : Int) : evAt (env_transomref02_FromInt  s0 s1 s2) [4, 1, 0, 1, 1, 1, 1, 1, 1] [4, 5, 6, 7] [.v (.one (.d (.int .u64) x0)), .v (.one (.d (.int .u64) x1)), .v (.one (.d (.int .i64) x2)), .v (.one (.d (.int .i64) x3))] [] some = transomref02_FromInt.s1c  s0 s1 s2 x0 x1 x2 x3 (fun r => some ⟨.tup [(.one (.d (.int .u64) r.1)), (.one (.d .bool r.2))], []⟩) := by
  kernel_rfl
theorem transomref02_FromInt.s2_ev  (s0 : Int → Int → Option (Int × Bool)) (s1 : Int → Int → Int → Int → Option (Int × Bool)) (s2 : Int → Int → Int → Int → Option (Int × Bool)) (x0 : Int) (x1 : Int) (x2 : Int) (x3 : Int) : evAt (env_transomref02_FromInt  s0 s1 s2) [1, 1, 5, 4, 1, 0, 1, 1, 1, 1, 1, 1] [4, 5, 6, 7] [.v (.one (.d (.int .u64) x0)), .v (.one (.d (.int .u64) x1)), .v (.one (.d (.int .i64) x2)), .v (.one (.d (.int .i64) x3))] [] some = transomref02_FromInt.s2c  s0 s1 s2 x0 x1 x2 x3 (fun r => some ⟨.tup [(.one (.d (.int .u64) r.1)), (.one (.d .bool r.2))], []⟩) := by
  kernel_rfl
mutual
def transomref02_FromInt.s0 : Nat → Int → Int → Option (Int × Bool)
  | 0, _, _ => none
  | k + 1, x0, x1 => transomref02_FromInt.s0c  (transomref02_FromInt.s0 k) (transomref02_FromInt.s1 k) (transomref02_FromInt.s2 k) x0 x1 some
def transomref02_FromInt.s1 : Nat → Int → Int → Int → Int → Option (Int × Bool)
  | 0, _, _, _, _ => none
  | k + 1, x0, x1, x2, x3 => transomref02_FromInt.s1c  (transomref02_FromInt.s0 k) (transomref02_FromInt.s1 k) (transomref02_FromInt.s2 k) x0 x1 x2 x3 some
def transomref02_FromInt.s2 : Nat → Int → Int → Int → Int → Option (Int × Bool)
  | 0, _, _, _, _ => none
  | k + 1, x0, x1, x2, x3 => transomref02_FromInt.s2c  (transomref02_FromInt.s0 k) (transomref02_FromInt.s1 k) (transomref02_FromInt.s2 k) x0 x1 x2 x3 some
end
def transomref02_FromInt.f (k : Nat) (a0 : Int) : Option (Int × Bool) := transomref02_FromInt.c  (transomref02_FromInt.s0 k) (transomref02_FromInt.s1 k) (transomref02_FromInt.s2 k) a0 some
theorem transomref02_FromInt.is  (s0 : Int → Int → Option (Int × Bool)) (s1 : Int → Int → Int → Int → Option (Int × Bool)) (s2 : Int → Int → Int → Int → Option (Int × Bool)) : FnIs (env_transomref02_FromInt  s0 s1 s2) 45 Go.Proofs.Try.f45 := ⟨Go.Proofs.Try.func45, rfl, rfl, rfl, by decide⟩
theorem transomref02_FromInt.envok  (s0 : Int → Int → Option (Int × Bool)) (s1 : Int → Int → Int → Int → Option (Int × Bool)) (s2 : Int → Int → Int → Int → Option (Int × Bool))  : EnvOK (env_transomref02_FromInt  s0 s1 s2).toEnv := by
  intro f c h
  simp only [env_transomref02_FromInt] at h
  simp at h
theorem transomref02_FromInt.segs_ok : ∀ k, ∀ s ∈ (env_transomref02_FromInt  (transomref02_FromInt.s0 k) (transomref02_FromInt.s1 k) (transomref02_FromInt.s2 k)).segs, SegOK (env_transomref02_FromInt  (transomref02_FromInt.s0 k) (transomref02_FromInt.s1 k) (transomref02_FromInt.s2 k)) Go.Proofs.Try.f45 s
  | 0 => by
    intro s hs
    simp only [env_transomref02_FromInt, List.mem_cons, List.not_mem_nil, or_false] at hs
    rcases hs with rfl | rfl | rfl
    · intro tvs blks res h; exfalso; simp only [seg_transomref02_FromInt_0] at h; split at h <;> simp [transomref02_FromInt.s0] at h
    · intro tvs blks res h; exfalso; simp only [seg_transomref02_FromInt_1] at h; split at h <;> simp [transomref02_FromInt.s1] at h
    · intro tvs blks res h; exfalso; simp only [seg_transomref02_FromInt_2] at h; split at h <;> simp [transomref02_FromInt.s2] at h
  | k + 1 => by
    have ih := transomref02_FromInt.segs_ok k
    intro s hs
    simp only [env_transomref02_FromInt, List.mem_cons, List.not_mem_nil, or_false] at hs
    rcases hs with rfl | rfl | rfl
    · refine seg_of_ev (E := env_transomref02_FromInt  (transomref02_FromInt.s0 k) (transomref02_FromInt.s1 k) (transomref02_FromInt.s2 k)) (transomref02_FromInt.envok _ _ _  ) ⟨(transomref02_FromInt.is  (transomref02_FromInt.s0 k) (transomref02_FromInt.s1 k) (transomref02_FromInt.s2 k)).rvs⟩ ih ?_
      intro tvs blks res h
      simp only [seg_transomref02_FromInt_0] at h
      split at h
      · refine (transomref02_FromInt.s0_ev  (transomref02_FromInt.s0 k) (transomref02_FromInt.s1 k) (transomref02_FromInt.s2 k) _ _ ).trans ?_
        rw [transomref02_FromInt.s0c_bind]
        exact h
      · simp at h
    · refine seg_of_ev (E := env_transomref02_FromInt  (transomref02_FromInt.s0 k) (transomref02_FromInt.s1 k) (transomref02_FromInt.s2 k)) (transomref02_FromInt.envok _ _ _  ) ⟨(transomref02_FromInt.is  (transomref02_FromInt.s0 k) (transomref02_FromInt.s1 k) (transomref02_FromInt.s2 k)).rvs⟩ ih ?_
      intro tvs blks res h
      simp only [seg_transomref02_FromInt_1] at h
      split at h
      · refine (transomref02_FromInt.s1_ev  (transomref02_FromInt.s0 k) (transomref02_FromInt.s1 k) (transomref02_FromInt.s2 k) _ _ _ _ ).trans ?_
        rw [transomref02_FromInt.s1c_bind]
        exact h
      · simp at h
    · refine seg_of_ev (E := env_transomref02_FromInt  (transomref02_FromInt.s0 k) (transomref02_FromInt.s1 k) (transomref02_FromInt.s2 k)) (transomref02_FromInt.envok _ _ _  ) ⟨(transomref02_FromInt.is  (transomref02_FromInt.s0 k) (transomref02_FromInt.s1 k) (transomref02_FromInt.s2 k)).rvs⟩ ih ?_
      intro tvs blks res h
      simp only [seg_transomref02_FromInt_2] at h
      split at h
      · refine (transomref02_FromInt.s2_ev  (transomref02_FromInt.s0 k) (transomref02_FromInt.s1 k) (transomref02_FromInt.s2 k) _ _ _ _ ).trans ?_
        rw [transomref02_FromInt.s2c_bind]
        exact h
      · simp at h
theorem transomref02_FromInt.ok (k : Nat) : CtOK Go.Proofs.Try.prog 45 (ct_transomref02_FromInt (transomref02_FromInt.f k)) := by
  refine ct_of_ev (E := env_transomref02_FromInt  (transomref02_FromInt.s0 k) (transomref02_FromInt.s1 k) (transomref02_FromInt.s2 k)) (transomref02_FromInt.is _ _ _ ) (transomref02_FromInt.envok _ _ _  ) (transomref02_FromInt.segs_ok k) rfl ?_
  intro tvs blks res h
  simp only [ct_transomref02_FromInt] at h
  split at h
  · refine (transomref02_FromInt.ev  (transomref02_FromInt.s0 k) (transomref02_FromInt.s1 k) (transomref02_FromInt.s2 k) _ ).trans ?_
    rw [transomref02_FromInt.c_bind]
    exact h
  · simp at h

/-! ### transomref07_fromBool: function 29 -/
def ct_transomref07_fromBool (g : Int → Int → Option (Int × Int × Int × ByteArray × Int)) : Ct where
  nin := 0
  mv := []
  F := fun tvs blks {β} K => match tvs, blks with
    | [.v (.one (.d (.int .i64) a0)), .v (.one (.d (.int .i64) a1))], [] => (g a0 a1).bind fun r => K ⟨.tup [(.agg [(.d (.int .i64) r.1), (.d (.int .i64) r.2.1), (.d (.int .u64) r.2.2.1), (.d .str r.2.2.2.1)]), (.one (.d (.int .i64) r.2.2.2.2))], []⟩
    | _, _ => none
  legit := fun tvs blks K r h => by
    split at h
    · obtain ⟨x, hx, hk⟩ := Option.bind_eq_some_iff.1 h
      refine ⟨_, ?_, hk⟩
      simp only [hx, Option.bind_some]
    · simp at h
noncomputable def env_transomref07_fromBool (g45 : Int → Option (Int × Bool))  : FEnv := { P := Go.Proofs.Try.prog, ct := fun m => if m = 45 then some (ct_transomref02_FromInt g45) else none, N := 30, body := Go.Proofs.Try.f29.body.getD .skip, rvs := [.cell 4 24, .tmp 5], rts := [24, 3], nin := 0, rmv := [], segs := [] }
def transomref07_fromBool.c {β : Type} (g45 : Int → Option (Int × Bool))  (a0 : Int) (a1 : Int) (ret : (Int × Int × Int × ByteArray × Int) → Option β) : Option β := (bif (a1 == (2 : Int)) then (ret (a1, a0, (0 : Int), (ByteArray.mk (List.toArray [])), (0 : Int))) else (bif (a1 == (3 : Int)) then ((g45 a0).bind fun r0 => (ret (a1, (0 : Int), r0.1, (ByteArray.mk (List.toArray [])), (0 : Int)))) else (bif (a0 == (1 : Int)) then (ret (a1, (0 : Int), (0 : Int), (ByteArray.mk (List.toArray [(116 : UInt8), (114 : UInt8), (117 : UInt8), (101 : UInt8)])), (0 : Int))) else (ret (a1, (0 : Int), (0 : Int), (ByteArray.mk (List.toArray [(102 : UInt8), (97 : UInt8), (108 : UInt8), (115 : UInt8), (101 : UInt8)])), (0 : Int))))))
theorem transomref07_fromBool.c_bind {β : Type} (g45 : Int → Option (Int × Bool))  (a0 : Int) (a1 : Int) (ret : (Int × Int × Int × ByteArray × Int) → Option β) : transomref07_fromBool.c g45  a0 a1 ret = (transomref07_fromBool.c g45  a0 a1 some).bind ret := by
  simp only [transomref07_fromBool.c, bif_bind, sum_bind, Option.bind_assoc, Option.bind_some, Option.bind_none, Option.bind_fun_some]
theorem transomref07_fromBool.ev (g45 : Int → Option (Int × Bool))  (a0 : Int) (a1 : Int) : evAt (env_transomref07_fromBool g45 ) [] [0, 1] [.v (.one (.d (.int .i64) a0)), .v (.one (.d (.int .i64) a1))] [] some = transomref07_fromBool.c g45  a0 a1 (fun r => some ⟨.tup [(.agg [(.d (.int .i64) r.1), (.d (.int .i64) r.2.1), (.d (.int .u64) r.2.2.1), (.d .str r.2.2.2.1)]), (.one (.d (.int .i64) r.2.2.2.2))], []⟩) := by
  kernel_rfl
def transomref07_fromBool.f (k : Nat) (a0 : Int) (a1 : Int) : Option (Int × Int × Int × ByteArray × Int) := transomref07_fromBool.c (transomref02_FromInt.f k)  a0 a1 some
theorem transomref07_fromBool.is (g45 : Int → Option (Int × Bool))  : FnIs (env_transomref07_fromBool g45 ) 29 Go.Proofs.Try.f29 := ⟨Go.Proofs.Try.func29, rfl, rfl, rfl, by decide⟩
theorem transomref07_fromBool.envok (g45 : Int → Option (Int × Bool))  (h45 : CtOK Go.Proofs.Try.prog 45 (ct_transomref02_FromInt g45)) : EnvOK (env_transomref07_fromBool g45 ).toEnv := by
  intro f c h
  simp only [env_transomref07_fromBool] at h
  split at h
  · rename_i e; subst e; cases h; exact h45
  simp at h
theorem transomref07_fromBool.ok (k : Nat) : CtOK Go.Proofs.Try.prog 29 (ct_transomref07_fromBool (transomref07_fromBool.f k)) := by
  refine ct_of_ev (E := env_transomref07_fromBool (transomref02_FromInt.f k) ) (transomref07_fromBool.is _ ) (transomref07_fromBool.envok _  (transomref02_FromInt.ok k)) (fun s hs => by simp [env_transomref07_fromBool] at hs) rfl ?_
  intro tvs blks res h
  simp only [ct_transomref07_fromBool] at h
  split at h
  · refine (transomref07_fromBool.ev (transomref02_FromInt.f k)  _ _ ).trans ?_
    rw [transomref07_fromBool.c_bind]
    exact h
  · simp at h

/-! ### transomref07_Digits: function 17 -/
def ct_transomref07_Digits (g : Int → Option ByteArray) : Ct where
  nin := 0
  mv := []
  F := fun tvs blks {β} K => match tvs, blks with
    | [.v (.one (.d (.int .i64) a0))], [] => (g a0).bind fun r => K ⟨.v (.one (.d .str r)), []⟩
    | _, _ => none
  legit := fun tvs blks K r h => by
    split at h
    · obtain ⟨x, hx, hk⟩ := Option.bind_eq_some_iff.1 h
      refine ⟨_, ?_, hk⟩
      simp only [hx, Option.bind_some]
    · simp at h
def seg_transomref07_Digits_0 (g : Int → Int → Option ByteArray) : Seg where
  path := [1, 1, 1]
  prep := []
  keep := [0, 3]
  F := fun tvs blks {β} K => match tvs, blks with
    | [.v (.one (.d (.int .i64) x0)), .v (.one (.d (.int .u64) x1))], [] => (g x0 x1).bind fun r => K ⟨.v (.one (.d .str r)), []⟩
    | _, _ => none
  legit := fun tvs blks K r h => by
    split at h
    · obtain ⟨x, hx, hk⟩ := Option.bind_eq_some_iff.1 h
      refine ⟨_, ?_, hk⟩
      simp only [hx, Option.bind_some]
    · simp at h
def seg_transomref07_Digits_1 (g : Int → Int → ByteArray → Option ByteArray) : Seg where
  path := [4, 0, 1, 1, 1, 1]
  prep := []
  keep := [0, 3, 4]
  F := fun tvs blks {β} K => match tvs, blks with
    | [.v (.one (.d (.int .i64) x0)), .v (.one (.d (.int .u64) x1)), .v (.one (.d .str x2))], [] => (g x0 x1 x2).bind fun r => K ⟨.v (.one (.d .str r)), []⟩
    | _, _ => none
  legit := fun tvs blks K r h => by
    split at h
    · obtain ⟨x, hx, hk⟩ := Option.bind_eq_some_iff.1 h
      refine ⟨_, ?_, hk⟩
      simp only [hx, Option.bind_some]
    · simp at h
noncomputable def env_transomref07_Digits  (s0 : Int → Int → Option ByteArray) (s1 : Int → Int → ByteArray → Option ByteArray) : FEnv := { P := Go.Proofs.Try.prog, ct := fun m => none, N := 35, body := Go.Proofs.Try.f17.body.getD .skip, rvs := [.tmp 2], rts := [9], nin := 0, rmv := [], segs := [seg_transomref07_Digits_0 s0, seg_transomref07_Digits_1 s1] }
def transomref07_Digits.c {β : Type}  (s0 : Int → Int → Option ByteArray) (s1 : Int → Int → ByteArray → Option ByteArray) (a0 : Int) (ret : ByteArray → Option β) : Option β := (bif (decide (a0 < (0 : Int))) then ((s0 a0 (IntKind.wrap IntKind.u64 ((0 : Int) - (IntKind.wrap IntKind.u64 a0)))).bind ret) else ((s0 a0 (IntKind.wrap IntKind.u64 a0)).bind ret))
def transomref07_Digits.s0c {β : Type}  (s0 : Int → Int → Option ByteArray) (s1 : Int → Int → ByteArray → Option ByteArray) (x0 : Int) (x1 : Int) (ret : ByteArray → Option β) : Option β := ((s1 x0 x1 (ByteArray.mk (List.toArray []))).bind ret)
def transomref07_Digits.s1c {β : Type}  (s0 : Int → Int → Option ByteArray) (s1 : Int → Int → ByteArray → Option ByteArray) (x0 : Int) (x1 : Int) (x2 : ByteArray) (ret : ByteArray → Option β) : Option β := (bif (decide (x1 ≥ (10 : Int))) then (bif (true && (decide ((ByteArray.size x2) ≤ (4611686018427387903 : Nat)))) then ((s1 x0 (IntKind.wrap IntKind.u64 (Int.tdiv x1 (10 : Int))) ((ByteArray.mk (List.toArray (List.map (fun n => (UInt8.ofNat (Int.toNat n))) [(IntKind.wrap IntKind.u8 (IntKind.wrap IntKind.u64 ((48 : Int) + (Int.tmod x1 (10 : Int)))))]))) ++ x2)).bind ret) else none) else (bif (true && (decide ((ByteArray.size x2) ≤ (4611686018427387903 : Nat)))) then (bif (decide (x0 < (0 : Int))) then (bif (true && (decide ((ByteArray.size ((ByteArray.mk (List.toArray (List.map (fun n => (UInt8.ofNat (Int.toNat n))) [(IntKind.wrap IntKind.u8 (IntKind.wrap IntKind.u64 ((48 : Int) + x1)))]))) ++ x2)) ≤ (4611686018427387903 : Nat)))) then (ret (((ByteArray.mk (List.toArray [(45 : UInt8)])) ++ ((ByteArray.mk (List.toArray (List.map (fun n => (UInt8.ofNat (Int.toNat n))) [(IntKind.wrap IntKind.u8 (IntKind.wrap IntKind.u64 ((48 : Int) + x1)))]))) ++ x2)))) else none) else (ret (((ByteArray.mk (List.toArray (List.map (fun n => (UInt8.ofNat (Int.toNat n))) [(IntKind.wrap IntKind.u8 (IntKind.wrap IntKind.u64 ((48 : Int) + x1)))]))) ++ x2)))) else none))
theorem transomref07_Digits.c_bind {β : Type}  (s0 : Int → Int → Option ByteArray) (s1 : Int → Int → ByteArray → Option ByteArray) (a0 : Int) (ret : ByteArray → Option β) : transomref07_Digits.c  s0 s1 a0 ret = (transomref07_Digits.c  s0 s1 a0 some).bind ret := by
  simp only [transomref07_Digits.c, bif_bind, sum_bind, Option.bind_assoc, Option.bind_some, Option.bind_none, Option.bind_fun_some]
theorem transomref07_Digits.s0c_bind {β : Type}  (s0 : Int → Int → Option ByteArray) (s1 : Int → Int → ByteArray → Option ByteArray) (x0 : Int) (x1 : Int) (ret : ByteArray → Option β) : transomref07_Digits.s0c  s0 s1 x0 x1 ret = (transomref07_Digits.s0c  s0 s1 x0 x1 some).bind ret := by
  simp only [transomref07_Digits.s0c, bif_bind, sum_bind, Option.bind_assoc, Option.bind_some, Option.bind_none, Option.bind_fun_some]
theorem transomref07_Digits.s1c_bind {β : Type}  (s0 : Int → Int → Option ByteArray) (s1 : Int → Int → ByteArray → Option ByteArray) (x0 : Int) (x1 : Int) (x2 : ByteArray) (ret : ByteArray → Option β) : transomref07_Digits.s1c  s0 s1 x0 x1 x2 ret = (transomref07_Digits.s1c  s0 s1 x0 x1 x2 some).bind ret := by
  simp only [transomref07_Digits.s1c, bif_bind, sum_bind, Option.bind_assoc, Option.bind_some, Option.bind_none, Option.bind_fun_some]
theorem transomref07_Digits.ev  (s0 : Int → Int → Option ByteArray) (s1 : Int → Int → ByteArray → Option ByteArray) (a0 : Int) : evAt (env_transomref07_Digits  s0 s1) [] [0] [.v (.one (.d (.int .i64) a0))] [] some = transomref07_Digits.c  s0 s1 a0 (fun r => some ⟨.v (.one (.d .str r)), []⟩) := by
  kernel_rfl
theorem transomref07_Digits.s0_ev  (s0 : Int → Int → Option ByteArray) (s1 : Int → Int → ByteArray → Option ByteArray) (x0 : Int) (x1 : Int) : evAt (env_transomref07_Digits  s0 s1) [1, 1, 1] [0, 3] [.v (.one (.d (.int .i64) x0)), .v (.one (.d (.int .u64) x1))] [] some = transomref07_Digits.s0c  s0 s1 x0 x1 (fun r => some ⟨.v (.one (.d .str r)), []⟩) := by
  kernel_rfl
theorem transomref07_Digits.s1_ev  (s0 : Int → Int → Option ByteArray) (s1 : Int → Int → ByteArray → Option ByteArray) (x0 : Int) (x1 : Int) (x2 : ByteArray) : evAt (env_transomref07_Digits  s0 s1) [4, 0, 1, 1, 1, 1] [0, 3, 4] [.v (.one (.d (.int .i64) x0)), .v (.one (.d (.int .u64) x1)), .v (.one (.d .str x2))] [] some = transomref07_Digits.s1c  s0 s1 x0 x1 x2 (fun r => some ⟨.v (.one (.d .str r)), []⟩) := by
  kernel_rfl
mutual
def transomref07_Digits.s0 : Nat → Int → Int → Option ByteArray
  | 0, _, _ => none
  | k + 1, x0, x1 => transomref07_Digits.s0c  (transomref07_Digits.s0 k) (transomref07_Digits.s1 k) x0 x1 some
def transomref07_Digits.s1 : Nat → Int → Int → ByteArray → Option ByteArray
  | 0, _, _, _ => none
  | k + 1, x0, x1, x2 => transomref07_Digits.s1c  (transomref07_Digits.s0 k) (transomref07_Digits.s1 k) x0 x1 x2 some
end
def transomref07_Digits.f (k : Nat) (a0 : Int) : Option ByteArray := transomref07_Digits.c  (transomref07_Digits.s0 k) (transomref07_Digits.s1 k) a0 some
theorem transomref07_Digits.is  (s0 : Int → Int → Option ByteArray) (s1 : Int → Int → ByteArray → Option ByteArray) : FnIs (env_transomref07_Digits  s0 s1) 17 Go.Proofs.Try.f17 := ⟨Go.Proofs.Try.func17, rfl, rfl, rfl, by decide⟩
theorem transomref07_Digits.envok  (s0 : Int → Int → Option ByteArray) (s1 : Int → Int → ByteArray → Option ByteArray)  : EnvOK (env_transomref07_Digits  s0 s1).toEnv := by
  intro f c h
  simp only [env_transomref07_Digits] at h
  simp at h
theorem transomref07_Digits.segs_ok : ∀ k, ∀ s ∈ (env_transomref07_Digits  (transomref07_Digits.s0 k) (transomref07_Digits.s1 k)).segs, SegOK (env_transomref07_Digits  (transomref07_Digits.s0 k) (transomref07_Digits.s1 k)) Go.Proofs.Try.f17 s
  | 0 => by
    intro s hs
    simp only [env_transomref07_Digits, List.mem_cons, List.not_mem_nil, or_false] at hs
    rcases hs with rfl | rfl
    · intro tvs blks res h; exfalso; simp only [seg_transomref07_Digits_0] at h; split at h <;> simp [transomref07_Digits.s0] at h
    · intro tvs blks res h; exfalso; simp only [seg_transomref07_Digits_1] at h; split at h <;> simp [transomref07_Digits.s1] at h
  | k + 1 => by
    have ih := transomref07_Digits.segs_ok k
    intro s hs
    simp only [env_transomref07_Digits, List.mem_cons, List.not_mem_nil, or_false] at hs
    rcases hs with rfl | rfl
    · refine seg_of_ev (E := env_transomref07_Digits  (transomref07_Digits.s0 k) (transomref07_Digits.s1 k)) (transomref07_Digits.envok _ _  ) ⟨(transomref07_Digits.is  (transomref07_Digits.s0 k) (transomref07_Digits.s1 k)).rvs⟩ ih ?_
      intro tvs blks res h
      simp only [seg_transomref07_Digits_0] at h
      split at h
      · refine (transomref07_Digits.s0_ev  (transomref07_Digits.s0 k) (transomref07_Digits.s1 k) _ _ ).trans ?_
        rw [transomref07_Digits.s0c_bind]
        exact h
      · simp at h
    · refine seg_of_ev (E := env_transomref07_Digits  (transomref07_Digits.s0 k) (transomref07_Digits.s1 k)) (transomref07_Digits.envok _ _  ) ⟨(transomref07_Digits.is  (transomref07_Digits.s0 k) (transomref07_Digits.s1 k)).rvs⟩ ih ?_
      intro tvs blks res h
      simp only [seg_transomref07_Digits_1] at h
      split at h
      · refine (transomref07_Digits.s1_ev  (transomref07_Digits.s0 k) (transomref07_Digits.s1 k) _ _ _ ).trans ?_
        rw [transomref07_Digits.s1c_bind]
        exact h
      · simp at h
theorem transomref07_Digits.ok (k : Nat) : CtOK Go.Proofs.Try.prog 17 (ct_transomref07_Digits (transomref07_Digits.f k)) := by
  refine ct_of_ev (E := env_transomref07_Digits  (transomref07_Digits.s0 k) (transomref07_Digits.s1 k)) (transomref07_Digits.is _ _ ) (transomref07_Digits.envok _ _  ) (transomref07_Digits.segs_ok k) rfl ?_
  intro tvs blks res h
  simp only [ct_transomref07_Digits] at h
  split at h
  · refine (transomref07_Digits.ev  (transomref07_Digits.s0 k) (transomref07_Digits.s1 k) _ ).trans ?_
    rw [transomref07_Digits.c_bind]
    exact h
  · simp at h

/-! ### transomref07_truth: function 46 -/
def ct_transomref07_truth (g : Int → Option (Int × Int × Int × ByteArray × Int)) : Ct where
  nin := 0
  mv := []
  F := fun tvs blks {β} K => match tvs, blks with
    | [.v (.one (.d (.int .i64) a0))], [] => (g a0).bind fun r => K ⟨.tup [(.agg [(.d (.int .i64) r.1), (.d (.int .i64) r.2.1), (.d (.int .u64) r.2.2.1), (.d .str r.2.2.2.1)]), (.one (.d (.int .i64) r.2.2.2.2))], []⟩
    | _, _ => none
  legit := fun tvs blks K r h => by
    split at h
    · obtain ⟨x, hx, hk⟩ := Option.bind_eq_some_iff.1 h
      refine ⟨_, ?_, hk⟩
      simp only [hx, Option.bind_some]
    · simp at h
noncomputable def env_transomref07_truth   : FEnv := { P := Go.Proofs.Try.prog, ct := fun m => none, N := 13, body := Go.Proofs.Try.f46.body.getD .skip, rvs := [.cell 2 24, .tmp 3], rts := [24, 3], nin := 0, rmv := [], segs := [] }
def transomref07_truth.c {β : Type}   (a0 : Int) (ret : (Int × Int × Int × ByteArray × Int) → Option β) : Option β := (bif (a0 != (0 : Int)) then (bif (a0 != (1 : Int)) then (ret ((0 : Int), (0 : Int), (0 : Int), (ByteArray.mk (List.toArray [])), (6 : Int))) else (ret ((1 : Int), a0, (0 : Int), (ByteArray.mk (List.toArray [])), (0 : Int)))) else (ret ((1 : Int), a0, (0 : Int), (ByteArray.mk (List.toArray [])), (0 : Int))))
theorem transomref07_truth.c_bind {β : Type}   (a0 : Int) (ret : (Int × Int × Int × ByteArray × Int) → Option β) : transomref07_truth.c   a0 ret = (transomref07_truth.c   a0 some).bind ret := by
  simp only [transomref07_truth.c, bif_bind, sum_bind, Option.bind_assoc, Option.bind_some, Option.bind_none, Option.bind_fun_some]
theorem transomref07_truth.ev   (a0 : Int) : evAt (env_transomref07_truth  ) [] [0] [.v (.one (.d (.int .i64) a0))] [] some = transomref07_truth.c   a0 (fun r => some ⟨.tup [(.agg [(.d (.int .i64) r.1), (.d (.int .i64) r.2.1), (.d (.int .u64) r.2.2.1), (.d .str r.2.2.2.1)]), (.one (.d (.int .i64) r.2.2.2.2))], []⟩) := by
  kernel_rfl
def transomref07_truth.f (k : Nat) (a0 : Int) : Option (Int × Int × Int × ByteArray × Int) := transomref07_truth.c   a0 some
theorem transomref07_truth.is   : FnIs (env_transomref07_truth  ) 46 Go.Proofs.Try.f46 := ⟨Go.Proofs.Try.func46, rfl, rfl, rfl, by decide⟩
theorem transomref07_truth.envok    : EnvOK (env_transomref07_truth  ).toEnv := by
  intro f c h
  simp only [env_transomref07_truth] at h
  simp at h
theorem transomref07_truth.ok (k : Nat) : CtOK Go.Proofs.Try.prog 46 (ct_transomref07_truth (transomref07_truth.f k)) := by
  refine ct_of_ev (E := env_transomref07_truth  ) (transomref07_truth.is ) (transomref07_truth.envok  ) (fun s hs => by simp [env_transomref07_truth] at hs) rfl ?_
  intro tvs blks res h
  simp only [ct_transomref07_truth] at h
  split at h
  · refine (transomref07_truth.ev   _ ).trans ?_
    rw [transomref07_truth.c_bind]
    exact h
  · simp at h

/-! ### transomref05_Eight: function 47 -/
def ct_transomref05_Eight (g : Int → Option ByteArray) : Ct where
  nin := 0
  mv := []
  F := fun tvs blks {β} K => match tvs, blks with
    | [.v (.one (.d (.int .u64) a0))], [] => (g a0).bind fun r => K ⟨.v (.one (.d .str r)), []⟩
    | _, _ => none
  legit := fun tvs blks K r h => by
    split at h
    · obtain ⟨x, hx, hk⟩ := Option.bind_eq_some_iff.1 h
      refine ⟨_, ?_, hk⟩
      simp only [hx, Option.bind_some]
    · simp at h
def seg_transomref05_Eight_0 (g : Int → Int → (List Int) → Option ByteArray) : Seg where
  path := [4, 1, 0, 1, 1]
  prep := [.own 3 (.int .u8)]
  keep := [0, 3, 4]
  F := fun tvs blks {β} K => match tvs, blks with
    | [.v (.one (.d (.int .u64) x0)), .v (.one (.own 0)), .v (.one (.d (.int .i64) x1))], [some (.own (.int .u8) false x2)] => (g x0 x1 x2).bind fun r => K ⟨.v (.one (.d .str r)), []⟩
    | _, _ => none
  legit := fun tvs blks K r h => by
    split at h
    · obtain ⟨x, hx, hk⟩ := Option.bind_eq_some_iff.1 h
      refine ⟨_, ?_, hk⟩
      simp only [hx, Option.bind_some]
    · simp at h
noncomputable def env_transomref05_Eight  (s0 : Int → Int → (List Int) → Option ByteArray) : FEnv := { P := Go.Proofs.Try.prog, ct := fun m => none, N := 21, body := Go.Proofs.Try.f47.body.getD .skip, rvs := [.tmp 2], rts := [9], nin := 0, rmv := [], segs := [seg_transomref05_Eight_0 s0] }
def transomref05_Eight.c {β : Type}  (s0 : Int → Int → (List Int) → Option ByteArray) (a0 : Int) (ret : ByteArray → Option β) : Option β := ((s0 a0 (0 : Int) []).bind ret)
def transomref05_Eight.s0c {β : Type}  (s0 : Int → Int → (List Int) → Option ByteArray) (x0 : Int) (x1 : Int) (x2 : List Int) (ret : ByteArray → Option β) : Option β := (bif (decide (x1 < (8 : Int))) then (bif (decide ((0 : Int) ≤ (IntKind.wrap IntKind.u64 (IntKind.wrap IntKind.i64 ((56 : Int) - (IntKind.wrap IntKind.i64 ((8 : Int) * x1))))))) then (bif (decide ((((List.length x2) + (1 : Nat)) * (1 : Nat)) ≤ (35184372088832 : Nat))) then ((s0 x0 (IntKind.wrap IntKind.i64 (x1 + (1 : Int))) (x2 ++ [(IntKind.wrap IntKind.u8 (Int.fdiv x0 ((2 : Int) ^ (Min.min (Int.toNat (IntKind.wrap IntKind.u64 (IntKind.wrap IntKind.i64 ((56 : Int) - (IntKind.wrap IntKind.i64 ((8 : Int) * x1)))))) (64 : Nat)))))])).bind ret) else none) else none) else (ret ((ByteArray.mk (List.toArray (List.map (fun n => (UInt8.ofNat (Int.toNat n))) x2))))))
theorem transomref05_Eight.c_bind {β : Type}  (s0 : Int → Int → (List Int) → Option ByteArray) (a0 : Int) (ret : ByteArray → Option β) : transomref05_Eight.c  s0 a0 ret = (transomref05_Eight.c  s0 a0 some).bind ret := by
  simp only [transomref05_Eight.c, bif_bind, sum_bind, Option.bind_assoc, Option.bind_some, Option.bind_none, Option.bind_fun_some]
theorem transomref05_Eight.s0c_bind {β : Type}  (s0 : Int → Int → (List Int) → Option ByteArray) (x0 : Int) (x1 : Int) (x2 : List Int) (ret : ByteArray → Option β) : transomref05_Eight.s0c  s0 x0 x1 x2 ret = (transomref05_Eight.s0c  s0 x0 x1 x2 some).bind ret := by
  simp only [transomref05_Eight.s0c, bif_bind, sum_bind, Option.bind_assoc, Option.bind_some, Option.bind_none, Option.bind_fun_some]
theorem transomref05_Eight.ev  (s0 : Int → Int → (List Int) → Option ByteArray) (a0 : Int) : evAt (env_transomref05_Eight  s0) [] [0] [.v (.one (.d (.int .u64) a0))] [] some = transomref05_Eight.c  s0 a0 (fun r => some ⟨.v (.one (.d .str r)), []⟩) := by
  kernel_rfl
theorem transomref05_Eight.s0_ev  (s0 : Int → Int → (List Int) → Option ByteArray) (x0 : Int) (x1 : Int) (x2 : List Int) : evAt (env_transomref05_Eight  s0) [4, 1, 0, 1, 1] [0, 3, 4] [.v (.one (.d (.int .u64) x0)), .v (.one (.own 0)), .v (.one (.d (.int .i64) x1))] [some (.own (.int .u8) false x2)] some = transomref05_Eight.s0c  s0 x0 x1 x2 (fun r => some ⟨.v (.one (.d .str r)), []⟩) := by
  kernel_rfl
def transomref05_Eight.s0 : Nat → Int → Int → (List Int) → Option ByteArray
  | 0, _, _, _ => none
  | k + 1, x0, x1, x2 => transomref05_Eight.s0c  (transomref05_Eight.s0 k) x0 x1 x2 some
def transomref05_Eight.f (k : Nat) (a0 : Int) : Option ByteArray := transomref05_Eight.c  (transomref05_Eight.s0 k) a0 some
theorem transomref05_Eight.is  (s0 : Int → Int → (List Int) → Option ByteArray) : FnIs (env_transomref05_Eight  s0) 47 Go.Proofs.Try.f47 := ⟨Go.Proofs.Try.func47, rfl, rfl, rfl, by decide⟩
theorem transomref05_Eight.envok  (s0 : Int → Int → (List Int) → Option ByteArray)  : EnvOK (env_transomref05_Eight  s0).toEnv := by
  intro f c h
  simp only [env_transomref05_Eight] at h
  simp at h
theorem transomref05_Eight.segs_ok : ∀ k, ∀ s ∈ (env_transomref05_Eight  (transomref05_Eight.s0 k)).segs, SegOK (env_transomref05_Eight  (transomref05_Eight.s0 k)) Go.Proofs.Try.f47 s
  | 0 => by
    intro s hs
    simp only [env_transomref05_Eight, List.mem_cons, List.not_mem_nil, or_false] at hs
    rcases hs with rfl
    · intro tvs blks res h; exfalso; simp only [seg_transomref05_Eight_0] at h; split at h <;> simp [transomref05_Eight.s0] at h
  | k + 1 => by
    have ih := transomref05_Eight.segs_ok k
    intro s hs
    simp only [env_transomref05_Eight, List.mem_cons, List.not_mem_nil, or_false] at hs
    rcases hs with rfl
    · refine seg_of_ev (E := env_transomref05_Eight  (transomref05_Eight.s0 k)) (transomref05_Eight.envok _  ) ⟨(transomref05_Eight.is  (transomref05_Eight.s0 k)).rvs⟩ ih ?_
      intro tvs blks res h
      simp only [seg_transomref05_Eight_0] at h
      split at h
      · refine (transomref05_Eight.s0_ev  (transomref05_Eight.s0 k) _ _ _ ).trans ?_
        rw [transomref05_Eight.s0c_bind]
        exact h
      · simp at h
theorem transomref05_Eight.ok (k : Nat) : CtOK Go.Proofs.Try.prog 47 (ct_transomref05_Eight (transomref05_Eight.f k)) := by
  refine ct_of_ev (E := env_transomref05_Eight  (transomref05_Eight.s0 k)) (transomref05_Eight.is _ ) (transomref05_Eight.envok _  ) (transomref05_Eight.segs_ok k) rfl ?_
  intro tvs blks res h
  simp only [ct_transomref05_Eight] at h
  split at h
  · refine (transomref05_Eight.ev  (transomref05_Eight.s0 k) _ ).trans ?_
    rw [transomref05_Eight.c_bind]
    exact h
  · simp at h

/-! ### transomref07_fromInt: function 30 -/
def ct_transomref07_fromInt (g : Int → Int → Option (Int × Int × Int × ByteArray × Int)) : Ct where
  nin := 0
  mv := []
  F := fun tvs blks {β} K => match tvs, blks with
    | [.v (.one (.d (.int .i64) a0)), .v (.one (.d (.int .i64) a1))], [] => (g a0 a1).bind fun r => K ⟨.tup [(.agg [(.d (.int .i64) r.1), (.d (.int .i64) r.2.1), (.d (.int .u64) r.2.2.1), (.d .str r.2.2.2.1)]), (.one (.d (.int .i64) r.2.2.2.2))], []⟩
    | _, _ => none
  legit := fun tvs blks K r h => by
    split at h
    · obtain ⟨x, hx, hk⟩ := Option.bind_eq_some_iff.1 h
      refine ⟨_, ?_, hk⟩
      simp only [hx, Option.bind_some]
    · simp at h
noncomputable def env_transomref07_fromInt (g17 : Int → Option ByteArray) (g45 : Int → Option (Int × Bool)) (g46 : Int → Option (Int × Int × Int × ByteArray × Int)) (g47 : Int → Option ByteArray)  : FEnv := { P := Go.Proofs.Try.prog, ct := fun m => if m = 17 then some (ct_transomref07_Digits g17) else if m = 45 then some (ct_transomref02_FromInt g45) else if m = 46 then some (ct_transomref07_truth g46) else if m = 47 then some (ct_transomref05_Eight g47) else none, N := 39, body := Go.Proofs.Try.f30.body.getD .skip, rvs := [.cell 4 24, .tmp 5], rts := [24, 3], nin := 0, rmv := [], segs := [] }
def transomref07_fromInt.c {β : Type} (g17 : Int → Option ByteArray) (g45 : Int → Option (Int × Bool)) (g46 : Int → Option (Int × Int × Int × ByteArray × Int)) (g47 : Int → Option ByteArray)  (a0 : Int) (a1 : Int) (ret : (Int × Int × Int × ByteArray × Int) → Option β) : Option β := (bif (a1 == (1 : Int)) then ((g46 a0).bind fun r0 => (ret (r0.1, r0.2.1, r0.2.2.1, r0.2.2.2.1, r0.2.2.2.2))) else (bif (a1 == (3 : Int)) then ((g45 a0).bind fun r1 => (bif (!r1.2) then (ret ((0 : Int), (0 : Int), (0 : Int), (ByteArray.mk (List.toArray [])), (6 : Int))) else (ret (a1, (0 : Int), r1.1, (ByteArray.mk (List.toArray [])), (0 : Int))))) else (bif (a1 == (4 : Int)) then ((g47 (IntKind.wrap IntKind.u64 a0)).bind fun r2 => (ret (a1, (0 : Int), (0 : Int), r2, (0 : Int)))) else ((g17 a0).bind fun r3 => (ret (a1, (0 : Int), (0 : Int), r3, (0 : Int)))))))
theorem transomref07_fromInt.c_bind {β : Type} (g17 : Int → Option ByteArray) (g45 : Int → Option (Int × Bool)) (g46 : Int → Option (Int × Int × Int × ByteArray × Int)) (g47 : Int → Option ByteArray)  (a0 : Int) (a1 : Int) (ret : (Int × Int × Int × ByteArray × Int) → Option β) : transomref07_fromInt.c g17 g45 g46 g47  a0 a1 ret = (transomref07_fromInt.c g17 g45 g46 g47  a0 a1 some).bind ret := by
  simp only [transomref07_fromInt.c, bif_bind, sum_bind, Option.bind_assoc, Option.bind_some, Option.bind_none, Option.bind_fun_some]
theorem transomref07_fromInt.ev (g17 : Int → Option ByteArray) (g45 : Int → Option (Int × Bool)) (g46 : Int → Option (Int × Int × Int × ByteArray × Int)) (g47 : Int → Option ByteArray)  (a0 : Int) (a1 : Int) : evAt (env_transomref07_fromInt g17 g45 g46 g47 ) [] [0, 1] [.v (.one (.d (.int .i64) a0)), .v (.one (.d (.int .i64) a1))] [] some = transomref07_fromInt.c g17 g45 g46 g47  a0 a1 (fun r => some ⟨.tup [(.agg [(.d (.int .i64) r.1), (.d (.int .i64) r.2.1), (.d (.int .u64) r.2.2.1), (.d .str r.2.2.2.1)]), (.one (.d (.int .i64) r.2.2.2.2))], []⟩) := by
  kernel_rfl
def transomref07_fromInt.f (k : Nat) (a0 : Int) (a1 : Int) : Option (Int × Int × Int × ByteArray × Int) := transomref07_fromInt.c (transomref07_Digits.f k) (transomref02_FromInt.f k) (transomref07_truth.f k) (transomref05_Eight.f k)  a0 a1 some
theorem transomref07_fromInt.is (g17 : Int → Option ByteArray) (g45 : Int → Option (Int × Bool)) (g46 : Int → Option (Int × Int × Int × ByteArray × Int)) (g47 : Int → Option ByteArray)  : FnIs (env_transomref07_fromInt g17 g45 g46 g47 ) 30 Go.Proofs.Try.f30 := ⟨Go.Proofs.Try.func30, rfl, rfl, rfl, by decide⟩
theorem transomref07_fromInt.envok (g17 : Int → Option ByteArray) (g45 : Int → Option (Int × Bool)) (g46 : Int → Option (Int × Int × Int × ByteArray × Int)) (g47 : Int → Option ByteArray)  (h17 : CtOK Go.Proofs.Try.prog 17 (ct_transomref07_Digits g17)) (h45 : CtOK Go.Proofs.Try.prog 45 (ct_transomref02_FromInt g45)) (h46 : CtOK Go.Proofs.Try.prog 46 (ct_transomref07_truth g46)) (h47 : CtOK Go.Proofs.Try.prog 47 (ct_transomref05_Eight g47)) : EnvOK (env_transomref07_fromInt g17 g45 g46 g47 ).toEnv := by
  intro f c h
  simp only [env_transomref07_fromInt] at h
  split at h
  · rename_i e; subst e; cases h; exact h17
  split at h
  · rename_i e; subst e; cases h; exact h45
  split at h
  · rename_i e; subst e; cases h; exact h46
  split at h
  · rename_i e; subst e; cases h; exact h47
  simp at h
theorem transomref07_fromInt.ok (k : Nat) : CtOK Go.Proofs.Try.prog 30 (ct_transomref07_fromInt (transomref07_fromInt.f k)) := by
  refine ct_of_ev (E := env_transomref07_fromInt (transomref07_Digits.f k) (transomref02_FromInt.f k) (transomref07_truth.f k) (transomref05_Eight.f k) ) (transomref07_fromInt.is _ _ _ _ ) (transomref07_fromInt.envok _ _ _ _  (transomref07_Digits.ok k) (transomref02_FromInt.ok k) (transomref07_truth.ok k) (transomref05_Eight.ok k)) (fun s hs => by simp [env_transomref07_fromInt] at hs) rfl ?_
  intro tvs blks res h
  simp only [ct_transomref07_fromInt] at h
  split at h
  · refine (transomref07_fromInt.ev (transomref07_Digits.f k) (transomref02_FromInt.f k) (transomref07_truth.f k) (transomref05_Eight.f k)  _ _ ).trans ?_
    rw [transomref07_fromInt.c_bind]
    exact h
  · simp at h
end Go.Proofs.Ytndkobhclggeiaa.Aev
