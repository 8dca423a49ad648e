/- By a program of this session (AEV): functions of the program as plain functions, and that the machine does what they say. -/
import Derived.Test.YtndkobhclggeiaaAevW
import Derived.Test.YtndkobhclggeiaaProg
import Derived.Laws.Externs
import Derived.Lib.Bytealg
namespace Go.Proofs.Ytndkobhclggeiaa.Aev
set_option linter.unusedVariables false
set_option linter.unusedSimpArgs false
set_option maxRecDepth 100000
set_option maxHeartbeats 4000000
open Go
/-! ### transomlaw04_Few: function 7 -/
def ct_transomlaw04_Few (g : Int → Int → Int → ByteArray → Option Int) : Ct where
  nin := 0
  mv := []
  F := fun tvs blks {β} K => match tvs, blks with
    | [.v (.agg [(.d (.int .i64) a0), (.d (.int .i64) a1), (.d (.int .u64) a2), (.d .str a3)])], [] => (g a0 a1 a2 a3).bind fun r => K ⟨.v (.one (.d (.int .i64) r)), []⟩
    | _, _ => none
  legit := fun tvs blks K r h => by
    split at h
    · obtain ⟨x, hx, hk⟩ := Option.bind_eq_some_iff.1 h
      refine ⟨_, ?_, hk⟩
      simp only [hx, Option.bind_some]
    · simp at h
noncomputable def env_transomlaw04_Few   : FEnv := { P := Go.Proofs.Try.prog, ct := fun m => none, N := 7, body := Go.Proofs.Try.f7.body.getD .skip, rvs := [.tmp 2], rts := [3], nin := 0, rmv := [], segs := [] }
def transomlaw04_Few.c {β : Type}   (a0 : Int) (a1 : Int) (a2 : Int) (a3 : ByteArray) (ret : Int → Option β) : Option β := (bif (decide (((ByteArray.size a3) : Int) > (2000 : Int))) then (ret ((0 : Int))) else (ret ((1 : Int))))
theorem transomlaw04_Few.c_bind {β : Type}   (a0 : Int) (a1 : Int) (a2 : Int) (a3 : ByteArray) (ret : Int → Option β) : transomlaw04_Few.c   a0 a1 a2 a3 ret = (transomlaw04_Few.c   a0 a1 a2 a3 some).bind ret := by
  simp only [transomlaw04_Few.c, bif_bind, sum_bind, Option.bind_assoc, Option.bind_some, Option.bind_none, Option.bind_fun_some]
theorem transomlaw04_Few.ev   (a0 : Int) (a1 : Int) (a2 : Int) (a3 : ByteArray) : evAt (env_transomlaw04_Few  ) [] [0] [.v (.agg [(.d (.int .i64) a0), (.d (.int .i64) a1), (.d (.int .u64) a2), (.d .str a3)])] [] some = transomlaw04_Few.c   a0 a1 a2 a3 (fun r => some ⟨.v (.one (.d (.int .i64) r)), []⟩) := by
  kernel_rfl
def transomlaw04_Few.f (k : Nat) (a0 : Int) (a1 : Int) (a2 : Int) (a3 : ByteArray) : Option Int := transomlaw04_Few.c   a0 a1 a2 a3 some
theorem transomlaw04_Few.is   : FnIs (env_transomlaw04_Few  ) 7 Go.Proofs.Try.f7 := ⟨Go.Proofs.Try.func7, rfl, rfl, rfl, by decide⟩
theorem transomlaw04_Few.envok    : EnvOK (env_transomlaw04_Few  ).toEnv := by
  intro f c h
  simp only [env_transomlaw04_Few] at h
  simp at h
theorem transomlaw04_Few.ok (k : Nat) : CtOK Go.Proofs.Try.prog 7 (ct_transomlaw04_Few (transomlaw04_Few.f k)) := by
  refine ct_of_ev (E := env_transomlaw04_Few  ) (transomlaw04_Few.is ) (transomlaw04_Few.envok  ) (fun s hs => by simp [env_transomlaw04_Few] at hs) rfl ?_
  intro tvs blks res h
  simp only [ct_transomlaw04_Few] at h
  split at h
  · refine (transomlaw04_Few.ev   _ _ _ _ ).trans ?_
    rw [transomlaw04_Few.c_bind]
    exact h
  · simp at h

/-! ### convert_Can: function 12 -/
def ct_convert_Can (g : Int → Int → Option Bool) : Ct where
  nin := 0
  mv := []
  F := fun tvs blks {β} K => match tvs, blks with
    | [.v (.one (.d (.int .i64) a0)), .v (.one (.d (.int .i64) a1))], [] => (g a0 a1).bind fun r => K ⟨.v (.one (.d .bool r)), []⟩
    | _, _ => none
  legit := fun tvs blks K r h => by
    split at h
    · obtain ⟨x, hx, hk⟩ := Option.bind_eq_some_iff.1 h
      refine ⟨_, ?_, hk⟩
      simp only [hx, Option.bind_some]
    · simp at h
def seg_convert_Can_0 (g : Int → Int → Bool → Option Bool) : Seg where
  path := [1, 0, 1]
  prep := []
  keep := [0, 1, 18]
  F := fun tvs blks {β} K => match tvs, blks with
    | [.v (.one (.d (.int .i64) x0)), .v (.one (.d (.int .i64) x1)), .v (.one (.d .bool x2))], [] => (g x0 x1 x2).bind fun r => K ⟨.v (.one (.d .bool r)), []⟩
    | _, _ => none
  legit := fun tvs blks K r h => by
    split at h
    · obtain ⟨x, hx, hk⟩ := Option.bind_eq_some_iff.1 h
      refine ⟨_, ?_, hk⟩
      simp only [hx, Option.bind_some]
    · simp at h
def seg_convert_Can_1 (g : Int → Int → Option Bool) : Seg where
  path := [1, 1]
  prep := []
  keep := [0, 1]
  F := fun tvs blks {β} K => match tvs, blks with
    | [.v (.one (.d (.int .i64) x0)), .v (.one (.d (.int .i64) x1))], [] => (g x0 x1).bind fun r => K ⟨.v (.one (.d .bool r)), []⟩
    | _, _ => none
  legit := fun tvs blks K r h => by
    split at h
    · obtain ⟨x, hx, hk⟩ := Option.bind_eq_some_iff.1 h
      refine ⟨_, ?_, hk⟩
      simp only [hx, Option.bind_some]
    · simp at h
noncomputable def env_convert_Can  (s0 : Int → Int → Bool → Option Bool) (s1 : Int → Int → Option Bool) : FEnv := { P := Go.Proofs.Try.prog, ct := fun m => none, N := 31, body := Go.Proofs.Try.f12.body.getD .skip, rvs := [.tmp 4], rts := [4], nin := 0, rmv := [], segs := [seg_convert_Can_0 s0, seg_convert_Can_1 s1] }
def convert_Can.c {β : Type}  (s0 : Int → Int → Bool → Option Bool) (s1 : Int → Int → Option Bool) (a0 : Int) (a1 : Int) (ret : Bool → Option β) : Option β := (bif (decide (a0 < (1 : Int))) then ((s0 a0 a1 true).bind ret) else (bif (decide (a0 > (5 : Int))) then ((s0 a0 a1 true).bind ret) else (bif (decide (a1 < (1 : Int))) then ((s0 a0 a1 true).bind ret) else ((s0 a0 a1 (decide (a1 > (5 : Int)))).bind ret))))
def convert_Can.s0c {β : Type}  (s0 : Int → Int → Bool → Option Bool) (s1 : Int → Int → Option Bool) (x0 : Int) (x1 : Int) (x2 : Bool) (ret : Bool → Option β) : Option β := (bif x2 then (ret (false)) else ((s1 x0 x1).bind ret))
def convert_Can.s1c {β : Type}  (s0 : Int → Int → Bool → Option Bool) (s1 : Int → Int → Option Bool) (x0 : Int) (x1 : Int) (ret : Bool → Option β) : Option β := (bif ((x0 == (1 : Int)) && ((x1 == (4 : Int)) && true)) then (bif ((x0 == (1 : Int)) && ((x1 == (4 : Int)) && true)) then (ret (false)) else (ret (true))) else (bif ((x0 == (4 : Int)) && ((x1 == (1 : Int)) && true)) then (bif ((x0 == (4 : Int)) && ((x1 == (1 : Int)) && true)) then (ret (false)) else (ret (true))) else (bif ((x0 == (3 : Int)) && ((x1 == (5 : Int)) && true)) then (bif ((x0 == (3 : Int)) && ((x1 == (5 : Int)) && true)) then (ret (false)) else (ret (true))) else (bif ((x0 == (5 : Int)) && ((x1 == (3 : Int)) && true)) then (ret (false)) else (ret (true))))))
theorem convert_Can.c_bind {β : Type}  (s0 : Int → Int → Bool → Option Bool) (s1 : Int → Int → Option Bool) (a0 : Int) (a1 : Int) (ret : Bool → Option β) : convert_Can.c  s0 s1 a0 a1 ret = (convert_Can.c  s0 s1 a0 a1 some).bind ret := by
  simp only [convert_Can.c, bif_bind, sum_bind, Option.bind_assoc, Option.bind_some, Option.bind_none, Option.bind_fun_some]
theorem convert_Can.s0c_bind {β : Type}  (s0 : Int → Int → Bool → Option Bool) (s1 : Int → Int → Option Bool) (x0 : Int) (x1 : Int) (x2 : Bool) (ret : Bool → Option β) : convert_Can.s0c  s0 s1 x0 x1 x2 ret = (convert_Can.s0c  s0 s1 x0 x1 x2 some).bind ret := by
  simp only [convert_Can.s0c, bif_bind, sum_bind, Option.bind_assoc, Option.bind_some, Option.bind_none, Option.bind_fun_some]
theorem convert_Can.s1c_bind {β : Type}  (s0 : Int → Int → Bool → Option Bool) (s1 : Int → Int → Option Bool) (x0 : Int) (x1 : Int) (ret : Bool → Option β) : convert_Can.s1c  s0 s1 x0 x1 ret = (convert_Can.s1c  s0 s1 x0 x1 some).bind ret := by
  simp only [convert_Can.s1c, bif_bind, sum_bind, Option.bind_assoc, Option.bind_some, Option.bind_none, Option.bind_fun_some]
theorem convert_Can.ev  (s0 : Int → Int → Bool → Option Bool) (s1 : Int → Int → Option Bool) (a0 : Int) (a1 : Int) : evAt (env_convert_Can  s0 s1) [] [0, 1] [.v (.one (.d (.int .i64) a0)), .v (.one (.d (.int .i64) a1))] [] some = convert_Can.c  s0 s1 a0 a1 (fun r => some ⟨.v (.one (.d .bool r)), []⟩) := by
  kernel_rfl
theorem convert_Can.s0_ev  (s0 : Int → Int → Bool → Option Bool) (s1 : Int → Int → Option Bool) (x0 : Int) (x1 : Int) (x2 : Bool) : evAt (env_convert_Can  s0 s1) [1, 0, 1] [0, 1, 18] [.v (.one (.d (.int .i64) x0)), .v (.one (.d (.int .i64) x1)), .v (.one (.d .bool x2))] [] some = convert_Can.s0c  s0 s1 x0 x1 x2 (fun r => some ⟨.v (.one (.d .bool r)), []⟩) := by
  kernel_rfl
theorem convert_Can.s1_ev  (s0 : Int → Int → Bool → Option Bool) (s1 : Int → Int → Option Bool) (x0 : Int) (x1 : Int) : evAt (env_convert_Can  s0 s1) [1, 1] [0, 1] [.v (.one (.d (.int .i64) x0)), .v (.one (.d (.int .i64) x1))] [] some = convert_Can.s1c  s0 s1 x0 x1 (fun r => some ⟨.v (.one (.d .bool r)), []⟩) := by
  kernel_rfl
mutual
def convert_Can.s0 : Nat → Int → Int → Bool → Option Bool
  | 0, _, _, _ => none
  | k + 1, x0, x1, x2 => convert_Can.s0c  (convert_Can.s0 k) (convert_Can.s1 k) x0 x1 x2 some
def convert_Can.s1 : Nat → Int → Int → Option Bool
  | 0, _, _ => none
  | k + 1, x0, x1 => convert_Can.s1c  (convert_Can.s0 k) (convert_Can.s1 k) x0 x1 some
end
def convert_Can.f (k : Nat) (a0 : Int) (a1 : Int) : Option Bool := convert_Can.c  (convert_Can.s0 k) (convert_Can.s1 k) a0 a1 some
theorem convert_Can.is  (s0 : Int → Int → Bool → Option Bool) (s1 : Int → Int → Option Bool) : FnIs (env_convert_Can  s0 s1) 12 Go.Proofs.Try.f12 := ⟨Go.Proofs.Try.func12, rfl, rfl, rfl, by decide⟩
theorem convert_Can.envok  (s0 : Int → Int → Bool → Option Bool) (s1 : Int → Int → Option Bool)  : EnvOK (env_convert_Can  s0 s1).toEnv := by
  intro f c h
  simp only [env_convert_Can] at h
  simp at h
theorem convert_Can.segs_ok : ∀ k, ∀ s ∈ (env_convert_Can  (convert_Can.s0 k) (convert_Can.s1 k)).segs, SegOK (env_convert_Can  (convert_Can.s0 k) (convert_Can.s1 k)) Go.Proofs.Try.f12 s
  | 0 => by
    intro s hs
    simp only [env_convert_Can, List.mem_cons, List.not_mem_nil, or_false] at hs
    rcases hs with rfl | rfl
    · intro tvs blks res h; exfalso; simp only [seg_convert_Can_0] at h; split at h <;> simp [convert_Can.s0] at h
    · intro tvs blks res h; exfalso; simp only [seg_convert_Can_1] at h; split at h <;> simp [convert_Can.s1] at h
  | k + 1 => by
    have ih := convert_Can.segs_ok k
    intro s hs
    simp only [env_convert_Can, List.mem_cons, List.not_mem_nil, or_false] at hs
    rcases hs with rfl | rfl
    · refine seg_of_ev (E := env_convert_Can  (convert_Can.s0 k) (convert_Can.s1 k)) (convert_Can.envok _ _  ) ⟨(convert_Can.is  (convert_Can.s0 k) (convert_Can.s1 k)).rvs⟩ ih ?_
      intro tvs blks res h
      simp only [seg_convert_Can_0] at h
      split at h
      · refine (convert_Can.s0_ev  (convert_Can.s0 k) (convert_Can.s1 k) _ _ _ ).trans ?_
        rw [convert_Can.s0c_bind]
        exact h
      · simp at h
    · refine seg_of_ev (E := env_convert_Can  (convert_Can.s0 k) (convert_Can.s1 k)) (convert_Can.envok _ _  ) ⟨(convert_Can.is  (convert_Can.s0 k) (convert_Can.s1 k)).rvs⟩ ih ?_
      intro tvs blks res h
      simp only [seg_convert_Can_1] at h
      split at h
      · refine (convert_Can.s1_ev  (convert_Can.s0 k) (convert_Can.s1 k) _ _ ).trans ?_
        rw [convert_Can.s1c_bind]
        exact h
      · simp at h
theorem convert_Can.ok (k : Nat) : CtOK Go.Proofs.Try.prog 12 (ct_convert_Can (convert_Can.f k)) := by
  refine ct_of_ev (E := env_convert_Can  (convert_Can.s0 k) (convert_Can.s1 k)) (convert_Can.is _ _ ) (convert_Can.envok _ _  ) (convert_Can.segs_ok k) rfl ?_
  intro tvs blks res h
  simp only [ct_convert_Can] at h
  split at h
  · refine (convert_Can.ev  (convert_Can.s0 k) (convert_Can.s1 k) _ _ ).trans ?_
    rw [convert_Can.c_bind]
    exact h
  · simp at h

/-! ### values_only: function 34 -/
def ct_values_only (g : Int → Int → Int → ByteArray → Option (Int × Int × Int × ByteArray)) : Ct where
  nin := 0
  mv := []
  F := fun tvs blks {β} K => match tvs, blks with
    | [.v (.agg [(.d (.int .i64) a0), (.d (.int .i64) a1), (.d (.int .u64) a2), (.d .str a3)])], [] => (g a0 a1 a2 a3).bind fun r => K ⟨.v (.agg [(.d (.int .i64) r.1), (.d (.int .i64) r.2.1), (.d (.int .u64) r.2.2.1), (.d .str r.2.2.2)]), []⟩
    | _, _ => none
  legit := fun tvs blks K r h => by
    split at h
    · obtain ⟨x, hx, hk⟩ := Option.bind_eq_some_iff.1 h
      refine ⟨_, ?_, hk⟩
      simp only [hx, Option.bind_some]
    · simp at h
def seg_values_only_0 (g : Int → Bool → Int → Int → Int → ByteArray → Int → Int → Int → ByteArray → Int → Int → Int → ByteArray → Option (Int × Int × Int × ByteArray)) : Seg where
  path := [1, 4, 1, 0, 1, 1]
  prep := []
  keep := [1, 2, 3, 8, 9]
  F := fun tvs blks {β} K => match tvs, blks with
    | [.v (.one (.ptr 0 0)), .v (.one (.ptr 1 0)), .v (.one (.ptr 2 0)), .v (.one (.d (.int .i64) x0)), .v (.one (.d .bool x1))], [some (.box [(.d (.int .i64) x2), (.d (.int .i64) x3), (.d (.int .u64) x4), (.d .str x5)]), some (.box [(.d (.int .i64) x6), (.d (.int .i64) x7), (.d (.int .u64) x8), (.d .str x9)]), some (.box [(.d (.int .i64) x10), (.d (.int .i64) x11), (.d (.int .u64) x12), (.d .str x13)])] => (g x0 x1 x2 x3 x4 x5 x6 x7 x8 x9 x10 x11 x12 x13).bind fun r => K ⟨.v (.agg [(.d (.int .i64) r.1), (.d (.int .i64) r.2.1), (.d (.int .u64) r.2.2.1), (.d .str r.2.2.2)]), []⟩
    | _, _ => none
  legit := fun tvs blks K r h => by
    split at h
    · obtain ⟨x, hx, hk⟩ := Option.bind_eq_some_iff.1 h
      refine ⟨_, ?_, hk⟩
      simp only [hx, Option.bind_some]
    · simp at h
noncomputable def env_values_only  (s0 : Int → Bool → Int → Int → Int → ByteArray → Int → Int → Int → ByteArray → Int → Int → Int → ByteArray → Option (Int × Int × Int × ByteArray)) : FEnv := { P := Go.Proofs.Try.prog, ct := fun m => none, N := 27, body := Go.Proofs.Try.f34.body.getD .skip, rvs := [.cell 2 24], rts := [24], nin := 0, rmv := [], segs := [seg_values_only_0 s0] }
def values_only.c {β : Type}  (s0 : Int → Bool → Int → Int → Int → ByteArray → Int → Int → Int → ByteArray → Int → Int → Int → ByteArray → Option (Int × Int × Int × ByteArray)) (a0 : Int) (a1 : Int) (a2 : Int) (a3 : ByteArray) (ret : (Int × Int × Int × ByteArray) → Option β) : Option β := (bif (a0 == (1 : Int)) then ((s0 a0 (a0 == (1 : Int)) a0 a1 a2 a3 (0 : Int) (0 : Int) (0 : Int) (ByteArray.mk (List.toArray [])) a0 (0 : Int) (0 : Int) (ByteArray.mk (List.toArray []))).bind ret) else ((s0 a0 (a0 == (2 : Int)) a0 a1 a2 a3 (0 : Int) (0 : Int) (0 : Int) (ByteArray.mk (List.toArray [])) a0 (0 : Int) (0 : Int) (ByteArray.mk (List.toArray []))).bind ret))
def values_only.s0c {β : Type}  (s0 : Int → Bool → Int → Int → Int → ByteArray → Int → Int → Int → ByteArray → Int → Int → Int → ByteArray → Option (Int × Int × Int × ByteArray)) (x0 : Int) (x1 : Bool) (x2 : Int) (x3 : Int) (x4 : Int) (x5 : ByteArray) (x6 : Int) (x7 : Int) (x8 : Int) (x9 : ByteArray) (x10 : Int) (x11 : Int) (x12 : Int) (x13 : ByteArray) (ret : (Int × Int × Int × ByteArray) → Option β) : Option β := (bif x1 then (ret (x10, x3, x12, x13)) else (bif (x0 == (3 : Int)) then (ret (x10, x11, x4, x13)) else (bif (x0 == (4 : Int)) then (bif (x0 == (4 : Int)) then (ret (x10, x11, x12, x5)) else (ret (x10, x11, x12, x13))) else (bif (x0 == (5 : Int)) then (ret (x10, x11, x12, x5)) else (ret (x10, x11, x12, x13))))))
theorem values_only.c_bind {β : Type}  (s0 : Int → Bool → Int → Int → Int → ByteArray → Int → Int → Int → ByteArray → Int → Int → Int → ByteArray → Option (Int × Int × Int × ByteArray)) (a0 : Int) (a1 : Int) (a2 : Int) (a3 : ByteArray) (ret : (Int × Int × Int × ByteArray) → Option β) : values_only.c  s0 a0 a1 a2 a3 ret = (values_only.c  s0 a0 a1 a2 a3 some).bind ret := by
  simp only [values_only.c, bif_bind, sum_bind, Option.bind_assoc, Option.bind_some, Option.bind_none, Option.bind_fun_some]
theorem values_only.s0c_bind {β : Type}  (s0 : Int → Bool → Int → Int → Int → ByteArray → Int → Int → Int → ByteArray → Int → Int → Int → ByteArray → Option (Int × Int × Int × ByteArray)) (x0 : Int) (x1 : Bool) (x2 : Int) (x3 : Int) (x4 : Int) (x5 : ByteArray) (x6 : Int) (x7 : Int) (x8 : Int) (x9 : ByteArray) (x10 : Int) (x11 : Int) (x12 : Int) (x13 : ByteArray) (ret : (Int × Int × Int × ByteArray) → Option β) : values_only.s0c  s0 x0 x1 x2 x3 x4 x5 x6 x7 x8 x9 x10 x11 x12 x13 ret = (values_only.s0c  s0 x0 x1 x2 x3 x4 x5 x6 x7 x8 x9 x10 x11 x12 x13 some).bind ret := by
  simp only [values_only.s0c, bif_bind, sum_bind, Option.bind_assoc, Option.bind_some, Option.bind_none, Option.bind_fun_some]
theorem values_only.ev  (s0 : Int → Bool → Int → Int → Int → ByteArray → Int → Int → Int → ByteArray → Int → Int → Int → ByteArray → Option (Int × Int × Int × ByteArray)) (a0 : Int) (a1 : Int) (a2 : Int) (a3 : ByteArray) : evAt (env_values_only  s0) [] [0] [.v (.agg [(.d (.int .i64) a0), (.d (.int .i64) a1), (.d (.int .u64) a2), (.d .str a3)])] [] some = values_only.c  s0 a0 a1 a2 a3 (fun r => some ⟨.v (.agg [(.d (.int .i64) r.1), (.d (.int .i64) r.2.1), (.d (.int .u64) r.2.2.1), (.d .str r.2.2.2)]), []⟩) := by
  kernel_rfl
theorem values_only.s0_ev  (s0 : Int → Bool → Int → Int → Int → ByteArray → Int → Int → Int → ByteArray → Int → Int → Int → ByteArray → Option (Int × Int × Int × ByteArray)) (x0 : Int) (x1 : Bool) (x2 : Int) (x3 : Int) (x4 : Int) (x5 : ByteArray) (x6 : Int) (x7 : Int) (x8 : Int) (x9 : ByteArray) (x10 : Int) (x11 : Int) (x12 : Int) (x13 : ByteArray) : evAt (env_values_only  s0) [1, 4, 1, 0, 1, 1] [1, 2, 3, 8, 9] [.v (.one (.ptr 0 0)), .v (.one (.ptr 1 0)), .v (.one (.ptr 2 0)), .v (.one (.d (.int .i64) x0)), .v (.one (.d .bool x1))] [some (.box [(.d (.int .i64) x2), (.d (.int .i64) x3), (.d (.int .u64) x4), (.d .str x5)]), some (.box [(.d (.int .i64) x6), (.d (.int .i64) x7), (.d (.int .u64) x8), (.d .str x9)]), some (.box [(.d (.int .i64) x10), (.d (.int .i64) x11), (.d (.int .u64) x12), (.d .str x13)])] some = values_only.s0c  s0 x0 x1 x2 x3 x4 x5 x6 x7 x8 x9 x10 x11 x12 x13 (fun r => some ⟨.v (.agg [(.d (.int .i64) r.1), (.d (.int .i64) r.2.1), (.d (.int .u64) r.2.2.1), (.d .str r.2.2.2)]), []⟩) := by
  kernel_rfl
def values_only.s0 : Nat → Int → Bool → Int → Int → Int → ByteArray → Int → Int → Int → ByteArray → Int → Int → Int → ByteArray → Option (Int × Int × Int × ByteArray)
  | 0, _, _, _, _, _, _, _, _, _, _, _, _, _, _ => none
  | k + 1, x0, x1, x2, x3, x4, x5, x6, x7, x8, x9, x10, x11, x12, x13 => values_only.s0c  (values_only.s0 k) x0 x1 x2 x3 x4 x5 x6 x7 x8 x9 x10 x11 x12 x13 some
def values_only.f (k : Nat) (a0 : Int) (a1 : Int) (a2 : Int) (a3 : ByteArray) : Option (Int × Int × Int × ByteArray) := values_only.c  (values_only.s0 k) a0 a1 a2 a3 some
theorem values_only.is  (s0 : Int → Bool → Int → Int → Int → ByteArray → Int → Int → Int → ByteArray → Int → Int → Int → ByteArray → Option (Int × Int × Int × ByteArray)) : FnIs (env_values_only  s0) 34 Go.Proofs.Try.f34 := ⟨Go.Proofs.Try.func34, rfl, rfl, rfl, by decide⟩
theorem values_only.envok  (s0 : Int → Bool → Int → Int → Int → ByteArray → Int → Int → Int → ByteArray → Int → Int → Int → ByteArray → Option (Int × Int × Int × ByteArray))  : EnvOK (env_values_only  s0).toEnv := by
  intro f c h
  simp only [env_values_only] at h
  simp at h
theorem values_only.segs_ok : ∀ k, ∀ s ∈ (env_values_only  (values_only.s0 k)).segs, SegOK (env_values_only  (values_only.s0 k)) Go.Proofs.Try.f34 s
  | 0 => by
    intro s hs
    simp only [env_values_only, List.mem_cons, List.not_mem_nil, or_false] at hs
    rcases hs with rfl
    · intro tvs blks res h; exfalso; simp only [seg_values_only_0] at h; split at h <;> simp [values_only.s0] at h
  | k + 1 => by
    have ih := values_only.segs_ok k
    intro s hs
    simp only [env_values_only, List.mem_cons, List.not_mem_nil, or_false] at hs
    rcases hs with rfl
    · refine seg_of_ev (E := env_values_only  (values_only.s0 k)) (values_only.envok _  ) ⟨(values_only.is  (values_only.s0 k)).rvs⟩ ih ?_
      intro tvs blks res h
      simp only [seg_values_only_0] at h
      split at h
      · refine (values_only.s0_ev  (values_only.s0 k) _ _ _ _ _ _ _ _ _ _ _ _ _ _ ).trans ?_
        rw [values_only.s0c_bind]
        exact h
      · simp at h
theorem values_only.ok (k : Nat) : CtOK Go.Proofs.Try.prog 34 (ct_values_only (values_only.f k)) := by
  refine ct_of_ev (E := env_values_only  (values_only.s0 k)) (values_only.is _ ) (values_only.envok _  ) (values_only.segs_ok k) rfl ?_
  intro tvs blks res h
  simp only [ct_values_only] at h
  split at h
  · refine (values_only.ev  (values_only.s0 k) _ _ _ _ ).trans ?_
    rw [values_only.c_bind]
    exact h
  · simp at h

/-! ### math_Float64frombits: function 50 (no body) -/
def ct_math_Float64frombits (g : Int → Option Nat) : Ct where
  nin := 0
  mv := []
  F := fun tvs blks {β} K => match tvs, blks with
    | [.v (.one (.d (.int .u64) a0))], [] => (g a0).bind fun r => K ⟨.v (.one (.d .flt r)), []⟩
    | _, _ => none
  legit := fun tvs blks K r h => by
    split at h
    · obtain ⟨x, hx, hk⟩ := Option.bind_eq_some_iff.1 h
      refine ⟨_, ?_, hk⟩
      simp only [hx, Option.bind_some]
    · simp at h
def math_Float64frombits.f (k : Nat) (a0 : Int) : Option Nat := some (a0.toNat)
theorem math_Float64frombits.ok (k : Nat) : CtOK Go.Proofs.Try.prog 50 (ct_math_Float64frombits (math_Float64frombits.f k)) := by
  refine ct_extern ?_
  intro tvs blks res h
  simp only [ct_math_Float64frombits] at h
  split at h
  · simp only [math_Float64frombits.f, Option.bind_some, Option.some.injEq] at h; subst h
    rename_i a0
    refine ⟨.float .f64 a0.toNat, ?_, rfl, rfl⟩
    intro w S ρ H vals hm hv
    obtain ⟨v0, m0, rfl, h0, hv⟩ := All2.cons_left hv
    cases All2.nil_left hv
    simp only [RepTV, RepVV, RepAV, Rd, List.cons.injEq, and_true] at h0
    subst h0
    exact ⟨run_callFunc_extern (e := Extern.MathFloatBits.float64frombits) Go.Proofs.Try.func50 (by kernel_rfl) (by kernel_rfl) (by kernel_rfl) (by kernel_rfl) _ w, rfl⟩
  · simp at h

/-! ### reals_Canon: function 35 -/
def ct_reals_Canon (g : Int → Option Int) : Ct where
  nin := 0
  mv := []
  F := fun tvs blks {β} K => match tvs, blks with
    | [.v (.one (.d (.int .u64) a0))], [] => (g a0).bind fun r => K ⟨.v (.one (.d (.int .u64) r)), []⟩
    | _, _ => none
  legit := fun tvs blks K r h => by
    split at h
    · obtain ⟨x, hx, hk⟩ := Option.bind_eq_some_iff.1 h
      refine ⟨_, ?_, hk⟩
      simp only [hx, Option.bind_some]
    · simp at h
noncomputable def env_reals_Canon (g50 : Int → Option Nat)  : FEnv := { P := Go.Proofs.Try.prog, ct := fun m => if m = 50 then some (ct_math_Float64frombits g50) else none, N := 10, body := Go.Proofs.Try.f35.body.getD .skip, rvs := [.tmp 2], rts := [22], nin := 0, rmv := [], segs := [] }
def reals_Canon.c {β : Type} (g50 : Int → Option Nat)  (a0 : Int) (ret : Int → Option β) : Option β := ((g50 a0).bind fun r0 => (bif ((Ieee.Format.order (FloatKind.format FloatKind.f64) r0 r0) != (Option.some Ordering.eq)) then (ret ((9221120237041090560 : Int))) else (ret (a0))))
theorem reals_Canon.c_bind {β : Type} (g50 : Int → Option Nat)  (a0 : Int) (ret : Int → Option β) : reals_Canon.c g50  a0 ret = (reals_Canon.c g50  a0 some).bind ret := by
  simp only [reals_Canon.c, bif_bind, sum_bind, Option.bind_assoc, Option.bind_some, Option.bind_none, Option.bind_fun_some]
theorem reals_Canon.ev (g50 : Int → Option Nat)  (a0 : Int) : evAt (env_reals_Canon g50 ) [] [0] [.v (.one (.d (.int .u64) a0))] [] some = reals_Canon.c g50  a0 (fun r => some ⟨.v (.one (.d (.int .u64) r)), []⟩) := by
  kernel_rfl
def reals_Canon.f (k : Nat) (a0 : Int) : Option Int := reals_Canon.c (math_Float64frombits.f k)  a0 some
theorem reals_Canon.is (g50 : Int → Option Nat)  : FnIs (env_reals_Canon g50 ) 35 Go.Proofs.Try.f35 := ⟨Go.Proofs.Try.func35, rfl, rfl, rfl, by decide⟩
theorem reals_Canon.envok (g50 : Int → Option Nat)  (h50 : CtOK Go.Proofs.Try.prog 50 (ct_math_Float64frombits g50)) : EnvOK (env_reals_Canon g50 ).toEnv := by
  intro f c h
  simp only [env_reals_Canon] at h
  split at h
  · rename_i e; subst e; cases h; exact h50
  simp at h
theorem reals_Canon.ok (k : Nat) : CtOK Go.Proofs.Try.prog 35 (ct_reals_Canon (reals_Canon.f k)) := by
  refine ct_of_ev (E := env_reals_Canon (math_Float64frombits.f k) ) (reals_Canon.is _ ) (reals_Canon.envok _  (math_Float64frombits.ok k)) (fun s hs => by simp [env_reals_Canon] at hs) rfl ?_
  intro tvs blks res h
  simp only [ct_reals_Canon] at h
  split at h
  · refine (reals_Canon.ev (math_Float64frombits.f k)  _ ).trans ?_
    rw [reals_Canon.c_bind]
    exact h
  · simp at h

/-! ### utf_first: function 61 -/
def ct_utf_first (g : Int → Option (Int × Int × Int × Int)) : Ct where
  nin := 0
  mv := []
  F := fun tvs blks {β} K => match tvs, blks with
    | [.v (.one (.d (.int .u8) a0))], [] => (g a0).bind fun r => K ⟨.tup [(.one (.d (.int .i64) r.1)), (.one (.d (.int .i64) r.2.1)), (.one (.d (.int .u8) r.2.2.1)), (.one (.d (.int .u8) r.2.2.2))], []⟩
    | _, _ => none
  legit := fun tvs blks K r h => by
    split at h
    · obtain ⟨x, hx, hk⟩ := Option.bind_eq_some_iff.1 h
      refine ⟨_, ?_, hk⟩
      simp only [hx, Option.bind_some]
    · simp at h
def seg_utf_first_0 (g : Int → Bool → Option (Int × Int × Int × Int)) : Seg where
  path := [1, 3, 1, 4, 0, 1]
  prep := []
  keep := [0, 11]
  F := fun tvs blks {β} K => match tvs, blks with
    | [.v (.one (.d (.int .u8) x0)), .v (.one (.d .bool x1))], [] => (g x0 x1).bind fun r => K ⟨.tup [(.one (.d (.int .i64) r.1)), (.one (.d (.int .i64) r.2.1)), (.one (.d (.int .u8) r.2.2.1)), (.one (.d (.int .u8) r.2.2.2))], []⟩
    | _, _ => none
  legit := fun tvs blks K r h => by
    split at h
    · obtain ⟨x, hx, hk⟩ := Option.bind_eq_some_iff.1 h
      refine ⟨_, ?_, hk⟩
      simp only [hx, Option.bind_some]
    · simp at h
noncomputable def env_utf_first  (s0 : Int → Bool → Option (Int × Int × Int × Int)) : FEnv := { P := Go.Proofs.Try.prog, ct := fun m => none, N := 48, body := Go.Proofs.Try.f61.body.getD .skip, rvs := [.tmp 2, .tmp 3, .tmp 4, .tmp 5], rts := [3, 3, 5, 5], nin := 0, rmv := [], segs := [seg_utf_first_0 s0] }
def utf_first.c {β : Type}  (s0 : Int → Bool → Option (Int × Int × Int × Int)) (a0 : Int) (ret : (Int × Int × Int × Int) → Option β) : Option β := (bif (decide (a0 < (128 : Int))) then (ret ((1 : Int), (IntKind.wrap IntKind.i64 a0), (0 : Int), (0 : Int))) else (bif (decide (a0 < (194 : Int))) then ((s0 a0 true).bind ret) else ((s0 a0 (decide (a0 > (244 : Int)))).bind ret)))
def utf_first.s0c {β : Type}  (s0 : Int → Bool → Option (Int × Int × Int × Int)) (x0 : Int) (x1 : Bool) (ret : (Int × Int × Int × Int) → Option β) : Option β := (bif x1 then (ret ((0 : Int), (0 : Int), (0 : Int), (0 : Int))) else (bif (decide (x0 < (224 : Int))) then (ret ((2 : Int), (IntKind.wrap IntKind.i64 (IntKind.wrap IntKind.u8 ((BitVec.toNat ((BitVec.ofInt (8 : Nat) x0) &&& (BitVec.ofInt (8 : Nat) (31 : Int)))) : Int))), (128 : Int), (191 : Int))) else (bif (x0 == (224 : Int)) then (ret ((3 : Int), (0 : Int), (160 : Int), (191 : Int))) else (bif (x0 == (237 : Int)) then (ret ((3 : Int), (IntKind.wrap IntKind.i64 (IntKind.wrap IntKind.u8 ((BitVec.toNat ((BitVec.ofInt (8 : Nat) x0) &&& (BitVec.ofInt (8 : Nat) (15 : Int)))) : Int))), (128 : Int), (159 : Int))) else (bif (decide (x0 < (240 : Int))) then (ret ((3 : Int), (IntKind.wrap IntKind.i64 (IntKind.wrap IntKind.u8 ((BitVec.toNat ((BitVec.ofInt (8 : Nat) x0) &&& (BitVec.ofInt (8 : Nat) (15 : Int)))) : Int))), (128 : Int), (191 : Int))) else (bif (x0 == (240 : Int)) then (ret ((4 : Int), (0 : Int), (144 : Int), (191 : Int))) else (bif (x0 == (244 : Int)) then (ret ((4 : Int), (4 : Int), (128 : Int), (143 : Int))) else (ret ((4 : Int), (IntKind.wrap IntKind.i64 (IntKind.wrap IntKind.u8 ((BitVec.toNat ((BitVec.ofInt (8 : Nat) x0) &&& (BitVec.ofInt (8 : Nat) (7 : Int)))) : Int))), (128 : Int), (191 : Int))))))))))
theorem utf_first.c_bind {β : Type}  (s0 : Int → Bool → Option (Int × Int × Int × Int)) (a0 : Int) (ret : (Int × Int × Int × Int) → Option β) : utf_first.c  s0 a0 ret = (utf_first.c  s0 a0 some).bind ret := by
  simp only [utf_first.c, bif_bind, sum_bind, Option.bind_assoc, Option.bind_some, Option.bind_none, Option.bind_fun_some]
theorem utf_first.s0c_bind {β : Type}  (s0 : Int → Bool → Option (Int × Int × Int × Int)) (x0 : Int) (x1 : Bool) (ret : (Int × Int × Int × Int) → Option β) : utf_first.s0c  s0 x0 x1 ret = (utf_first.s0c  s0 x0 x1 some).bind ret := by
  simp only [utf_first.s0c, bif_bind, sum_bind, Option.bind_assoc, Option.bind_some, Option.bind_none, Option.bind_fun_some]
theorem utf_first.ev  (s0 : Int → Bool → Option (Int × Int × Int × Int)) (a0 : Int) : evAt (env_utf_first  s0) [] [0] [.v (.one (.d (.int .u8) a0))] [] some = utf_first.c  s0 a0 (fun r => some ⟨.tup [(.one (.d (.int .i64) r.1)), (.one (.d (.int .i64) r.2.1)), (.one (.d (.int .u8) r.2.2.1)), (.one (.d (.int .u8) r.2.2.2))], []⟩) := by
  kernel_rfl
theorem utf_first.s0_ev  (s0 : Int → Bool → Option (Int × Int × Int × Int)) (x0 : Int) (x1 : Bool) : evAt (env_utf_first  s0) [1, 3, 1, 4, 0, 1] [0, 11] [.v (.one (.d (.int .u8) x0)), .v (.one (.d .bool x1))] [] some = utf_first.s0c  s0 x0 x1 (fun r => some ⟨.tup [(.one (.d (.int .i64) r.1)), (.one (.d (.int .i64) r.2.1)), (.one (.d (.int .u8) r.2.2.1)), (.one (.d (.int .u8) r.2.2.2))], []⟩) := by
  kernel_rfl
def utf_first.s0 : Nat → Int → Bool → Option (Int × Int × Int × Int)
  | 0, _, _ => none
  | k + 1, x0, x1 => utf_first.s0c  (utf_first.s0 k) x0 x1 some
def utf_first.f (k : Nat) (a0 : Int) : Option (Int × Int × Int × Int) := utf_first.c  (utf_first.s0 k) a0 some
theorem utf_first.is  (s0 : Int → Bool → Option (Int × Int × Int × Int)) : FnIs (env_utf_first  s0) 61 Go.Proofs.Try.f61 := ⟨Go.Proofs.Try.func61, rfl, rfl, rfl, by decide⟩
theorem utf_first.envok  (s0 : Int → Bool → Option (Int × Int × Int × Int))  : EnvOK (env_utf_first  s0).toEnv := by
  intro f c h
  simp only [env_utf_first] at h
  simp at h
theorem utf_first.segs_ok : ∀ k, ∀ s ∈ (env_utf_first  (utf_first.s0 k)).segs, SegOK (env_utf_first  (utf_first.s0 k)) Go.Proofs.Try.f61 s
  | 0 => by
    intro s hs
    simp only [env_utf_first, List.mem_cons, List.not_mem_nil, or_false] at hs
    rcases hs with rfl
    · intro tvs blks res h; exfalso; simp only [seg_utf_first_0] at h; split at h <;> simp [utf_first.s0] at h
  | k + 1 => by
    have ih := utf_first.segs_ok k
    intro s hs
    simp only [env_utf_first, List.mem_cons, List.not_mem_nil, or_false] at hs
    rcases hs with rfl
    · refine seg_of_ev (E := env_utf_first  (utf_first.s0 k)) (utf_first.envok _  ) ⟨(utf_first.is  (utf_first.s0 k)).rvs⟩ ih ?_
      intro tvs blks res h
      simp only [seg_utf_first_0] at h
      split at h
      · refine (utf_first.s0_ev  (utf_first.s0 k) _ _ ).trans ?_
        rw [utf_first.s0c_bind]
        exact h
      · simp at h
theorem utf_first.ok (k : Nat) : CtOK Go.Proofs.Try.prog 61 (ct_utf_first (utf_first.f k)) := by
  refine ct_of_ev (E := env_utf_first  (utf_first.s0 k)) (utf_first.is _ ) (utf_first.envok _  ) (utf_first.segs_ok k) rfl ?_
  intro tvs blks res h
  simp only [ct_utf_first] at h
  split at h
  · refine (utf_first.ev  (utf_first.s0 k) _ ).trans ?_
    rw [utf_first.c_bind]
    exact h
  · simp at h
end Go.Proofs.Ytndkobhclggeiaa.Aev
