/- By a program of this session (AEV): functions of the program as plain functions, and that the machine does what they say. -/
import Derived.Test.YtlclhjdfbkenfaaAevW
import Derived.Test.YtlclhjdfbkenfaaProg
import Derived.Laws.Externs
import Derived.Lib.Bytealg
namespace Go.Proofs.Ytlclhjdfbkenfaa.Aev
set_option linter.unusedVariables false
set_option linter.unusedSimpArgs false
set_option maxRecDepth 100000
set_option maxHeartbeats 4000000
open Go
/-! ### transomref01_lead: function 76 -/
def ct_transomref01_lead (g : Int → Option (Int × Int)) : Ct where
  nin := 0
  mv := []
  F := fun tvs blks {β} K => match tvs, blks with
    | [.v (.one (.d (.int .i64) a0))], [] => (g a0).bind fun r => K ⟨.tup [(.one (.d (.int .i64) r.1)), (.one (.d (.int .i64) r.2))], []⟩
    | _, _ => none
  legit := fun tvs blks K r h => by
    split at h
    · obtain ⟨x, hx, hk⟩ := Option.bind_eq_some_iff.1 h
      refine ⟨_, ?_, hk⟩
      simp only [hx, Option.bind_some]
    · simp at h
def seg_transomref01_lead_0 (g : Int → Bool → Option (Int × Int)) : Seg where
  path := [1, 3, 1, 4, 0, 1]
  prep := []
  keep := [0, 8]
  F := fun tvs blks {β} K => match tvs, blks with
    | [.v (.one (.d (.int .i64) x0)), .v (.one (.d .bool x1))], [] => (g x0 x1).bind fun r => K ⟨.tup [(.one (.d (.int .i64) r.1)), (.one (.d (.int .i64) r.2))], []⟩
    | _, _ => none
  legit := fun tvs blks K r h => by
    split at h
    · obtain ⟨x, hx, hk⟩ := Option.bind_eq_some_iff.1 h
      refine ⟨_, ?_, hk⟩
      simp only [hx, Option.bind_some]
    · simp at h
def seg_transomref01_lead_1 (g : Int → Bool → Option (Int × Int)) : Seg where
  path := [1, 3, 1, 3, 1, 4, 0, 1]
  prep := []
  keep := [0, 17]
  F := fun tvs blks {β} K => match tvs, blks with
    | [.v (.one (.d (.int .i64) x0)), .v (.one (.d .bool x1))], [] => (g x0 x1).bind fun r => K ⟨.tup [(.one (.d (.int .i64) r.1)), (.one (.d (.int .i64) r.2))], []⟩
    | _, _ => none
  legit := fun tvs blks K r h => by
    split at h
    · obtain ⟨x, hx, hk⟩ := Option.bind_eq_some_iff.1 h
      refine ⟨_, ?_, hk⟩
      simp only [hx, Option.bind_some]
    · simp at h
noncomputable def env_transomref01_lead  (s0 : Int → Bool → Option (Int × Int)) (s1 : Int → Bool → Option (Int × Int)) : FEnv := { P := Go.Proofs.Try.prog, ct := fun m => none, N := 35, body := Go.Proofs.Try.f76.body.getD .skip, rvs := [.tmp 2, .tmp 3], rts := [3, 3], nin := 0, rmv := [], segs := [seg_transomref01_lead_0 s0, seg_transomref01_lead_1 s1] }
def transomref01_lead.c {β : Type}  (s0 : Int → Bool → Option (Int × Int)) (s1 : Int → Bool → Option (Int × Int)) (a0 : Int) (ret : (Int × Int) → Option β) : Option β := (bif (decide (a0 < (128 : Int))) then (ret ((1 : Int), a0)) else (bif (decide (a0 ≥ (192 : Int))) then ((s0 a0 (decide (a0 < (224 : Int)))).bind ret) else ((s0 a0 false).bind ret)))
def transomref01_lead.s0c {β : Type}  (s0 : Int → Bool → Option (Int × Int)) (s1 : Int → Bool → Option (Int × Int)) (x0 : Int) (x1 : Bool) (ret : (Int × Int) → Option β) : Option β := (bif x1 then (ret ((2 : Int), (IntKind.wrap IntKind.i64 (x0 - (192 : Int))))) else (bif (decide (x0 ≥ (224 : Int))) then ((s1 x0 (decide (x0 < (240 : Int)))).bind ret) else ((s1 x0 false).bind ret)))
def transomref01_lead.s1c {β : Type}  (s0 : Int → Bool → Option (Int × Int)) (s1 : Int → Bool → Option (Int × Int)) (x0 : Int) (x1 : Bool) (ret : (Int × Int) → Option β) : Option β := (bif x1 then (ret ((3 : Int), (IntKind.wrap IntKind.i64 (x0 - (224 : Int))))) else (bif (decide (x0 ≥ (240 : Int))) then (bif (decide (x0 < (248 : Int))) then (ret ((4 : Int), (IntKind.wrap IntKind.i64 (x0 - (240 : Int))))) else (ret ((0 : Int), (0 : Int)))) else (ret ((0 : Int), (0 : Int)))))
theorem transomref01_lead.c_bind {β : Type}  (s0 : Int → Bool → Option (Int × Int)) (s1 : Int → Bool → Option (Int × Int)) (a0 : Int) (ret : (Int × Int) → Option β) : transomref01_lead.c  s0 s1 a0 ret = (transomref01_lead.c  s0 s1 a0 some).bind ret := by
  simp only [transomref01_lead.c, bif_bind, sum_bind, Option.bind_assoc, Option.bind_some, Option.bind_none, Option.bind_fun_some]
theorem transomref01_lead.s0c_bind {β : Type}  (s0 : Int → Bool → Option (Int × Int)) (s1 : Int → Bool → Option (Int × Int)) (x0 : Int) (x1 : Bool) (ret : (Int × Int) → Option β) : transomref01_lead.s0c  s0 s1 x0 x1 ret = (transomref01_lead.s0c  s0 s1 x0 x1 some).bind ret := by
  simp only [transomref01_lead.s0c, bif_bind, sum_bind, Option.bind_assoc, Option.bind_some, Option.bind_none, Option.bind_fun_some]
theorem transomref01_lead.s1c_bind {β : Type}  (s0 : Int → Bool → Option (Int × Int)) (s1 : Int → Bool → Option (Int × Int)) (x0 : Int) (x1 : Bool) (ret : (Int × Int) → Option β) : transomref01_lead.s1c  s0 s1 x0 x1 ret = (transomref01_lead.s1c  s0 s1 x0 x1 some).bind ret := by
  simp only [transomref01_lead.s1c, bif_bind, sum_bind, Option.bind_assoc, Option.bind_some, Option.bind_none, Option.bind_fun_some]
theorem transomref01_lead.ev  (s0 : Int → Bool → Option (Int × Int)) (s1 : Int → Bool → Option (Int × Int)) (a0 : Int) : evAt (env_transomref01_lead  s0 s1) [] [0] [.v (.one (.d (.int .i64) a0))] [] some = transomref01_lead.c  s0 s1 a0 (fun r => some ⟨.tup [(.one (.d (.int .i64) r.1)), (.one (.d (.int .i64) r.2))], []⟩) := by
  kernel_rfl
theorem transomref01_lead.s0_ev  (s0 : Int → Bool → Option (Int × Int)) (s1 : Int → Bool → Option (Int × Int)) (x0 : Int) (x1 : Bool) : evAt (env_transomref01_lead  s0 s1) [1, 3, 1, 4, 0, 1] [0, 8] [.v (.one (.d (.int .i64) x0)), .v (.one (.d .bool x1))] [] some = transomref01_lead.s0c  s0 s1 x0 x1 (fun r => some ⟨.tup [(.one (.d (.int .i64) r.1)), (.one (.d (.int .i64) r.2))], []⟩) := by
  kernel_rfl
theorem transomref01_lead.s1_ev  (s0 : Int → Bool → Option (Int × Int)) (s1 : Int → Bool → Option (Int × Int)) (x0 : Int) (x1 : Bool) : evAt (env_transomref01_lead  s0 s1) [1, 3, 1, 3, 1, 4, 0, 1] [0, 17] [.v (.one (.d (.int .i64) x0)), .v (.one (.d .bool x1))] [] some = transomref01_lead.s1c  s0 s1 x0 x1 (fun r => some ⟨.tup [(.one (.d (.int .i64) r.1)), (.one (.d (.int .i64) r.2))], []⟩) := by
  kernel_rfl
mutual
def transomref01_lead.s0 : Nat → Int → Bool → Option (Int × Int)
  | 0, _, _ => none
  | k + 1, x0, x1 => transomref01_lead.s0c  (transomref01_lead.s0 k) (transomref01_lead.s1 k) x0 x1 some
def transomref01_lead.s1 : Nat → Int → Bool → Option (Int × Int)
  | 0, _, _ => none
  | k + 1, x0, x1 => transomref01_lead.s1c  (transomref01_lead.s0 k) (transomref01_lead.s1 k) x0 x1 some
end
def transomref01_lead.f (k : Nat) (a0 : Int) : Option (Int × Int) := transomref01_lead.c  (transomref01_lead.s0 k) (transomref01_lead.s1 k) a0 some
theorem transomref01_lead.is  (s0 : Int → Bool → Option (Int × Int)) (s1 : Int → Bool → Option (Int × Int)) : FnIs (env_transomref01_lead  s0 s1) 76 Go.Proofs.Try.f76 := ⟨Go.Proofs.Try.func76, rfl, rfl, rfl, by decide⟩
theorem transomref01_lead.envok  (s0 : Int → Bool → Option (Int × Int)) (s1 : Int → Bool → Option (Int × Int))  : EnvOK (env_transomref01_lead  s0 s1).toEnv := by
  intro f c h
  simp only [env_transomref01_lead] at h
  simp at h
theorem transomref01_lead.segs_ok : ∀ k, ∀ s ∈ (env_transomref01_lead  (transomref01_lead.s0 k) (transomref01_lead.s1 k)).segs, SegOK (env_transomref01_lead  (transomref01_lead.s0 k) (transomref01_lead.s1 k)) Go.Proofs.Try.f76 s
  | 0 => by
    intro s hs
    simp only [env_transomref01_lead, List.mem_cons, List.not_mem_nil, or_false] at hs
    rcases hs with rfl | rfl
    · intro tvs blks res h; exfalso; simp only [seg_transomref01_lead_0] at h; split at h <;> simp [transomref01_lead.s0] at h
    · intro tvs blks res h; exfalso; simp only [seg_transomref01_lead_1] at h; split at h <;> simp [transomref01_lead.s1] at h
  | k + 1 => by
    have ih := transomref01_lead.segs_ok k
    intro s hs
    simp only [env_transomref01_lead, List.mem_cons, List.not_mem_nil, or_false] at hs
    rcases hs with rfl | rfl
    · refine seg_of_ev (E := env_transomref01_lead  (transomref01_lead.s0 k) (transomref01_lead.s1 k)) (transomref01_lead.envok _ _  ) ⟨(transomref01_lead.is  (transomref01_lead.s0 k) (transomref01_lead.s1 k)).rvs⟩ ih ?_
      intro tvs blks res h
      simp only [seg_transomref01_lead_0] at h
      split at h
      · refine (transomref01_lead.s0_ev  (transomref01_lead.s0 k) (transomref01_lead.s1 k) _ _ ).trans ?_
        rw [transomref01_lead.s0c_bind]
        exact h
      · simp at h
    · refine seg_of_ev (E := env_transomref01_lead  (transomref01_lead.s0 k) (transomref01_lead.s1 k)) (transomref01_lead.envok _ _  ) ⟨(transomref01_lead.is  (transomref01_lead.s0 k) (transomref01_lead.s1 k)).rvs⟩ ih ?_
      intro tvs blks res h
      simp only [seg_transomref01_lead_1] at h
      split at h
      · refine (transomref01_lead.s1_ev  (transomref01_lead.s0 k) (transomref01_lead.s1 k) _ _ ).trans ?_
        rw [transomref01_lead.s1c_bind]
        exact h
      · simp at h
theorem transomref01_lead.ok (k : Nat) : CtOK Go.Proofs.Try.prog 76 (ct_transomref01_lead (transomref01_lead.f k)) := by
  refine ct_of_ev (E := env_transomref01_lead  (transomref01_lead.s0 k) (transomref01_lead.s1 k)) (transomref01_lead.is _ _ ) (transomref01_lead.envok _ _  ) (transomref01_lead.segs_ok k) rfl ?_
  intro tvs blks res h
  simp only [ct_transomref01_lead] at h
  split at h
  · refine (transomref01_lead.ev  (transomref01_lead.s0 k) (transomref01_lead.s1 k) _ ).trans ?_
    rw [transomref01_lead.c_bind]
    exact h
  · simp at h

/-! ### transomref01_among: function 77 -/
def ct_transomref01_among (g : Int → Int → Int → Option Bool) : Ct where
  nin := 0
  mv := []
  F := fun tvs blks {β} K => match tvs, blks with
    | [.v (.one (.d (.int .i64) a0)), .v (.one (.d (.int .i64) a1)), .v (.one (.d (.int .i64) a2))], [] => (g a0 a1 a2).bind fun r => K ⟨.v (.one (.d .bool r)), []⟩
    | _, _ => none
  legit := fun tvs blks K r h => by
    split at h
    · obtain ⟨x, hx, hk⟩ := Option.bind_eq_some_iff.1 h
      refine ⟨_, ?_, hk⟩
      simp only [hx, Option.bind_some]
    · simp at h
def seg_transomref01_among_0 (g : Int → Int → Int → Int → Int → Option Bool) : Seg where
  path := [1, 1, 1]
  prep := []
  keep := [0, 1, 2, 7, 8]
  F := fun tvs blks {β} K => match tvs, blks with
    | [.v (.one (.d (.int .i64) x0)), .v (.one (.d (.int .i64) x1)), .v (.one (.d (.int .i64) x2)), .v (.one (.d (.int .i64) x3)), .v (.one (.d (.int .i64) x4))], [] => (g x0 x1 x2 x3 x4).bind fun r => K ⟨.v (.one (.d .bool r)), []⟩
    | _, _ => none
  legit := fun tvs blks K r h => by
    split at h
    · obtain ⟨x, hx, hk⟩ := Option.bind_eq_some_iff.1 h
      refine ⟨_, ?_, hk⟩
      simp only [hx, Option.bind_some]
    · simp at h
def seg_transomref01_among_1 (g : Int → Int → Int → Int → Int → Option Bool) : Seg where
  path := [1, 1, 1, 1]
  prep := []
  keep := [0, 1, 2, 7, 8]
  F := fun tvs blks {β} K => match tvs, blks with
    | [.v (.one (.d (.int .i64) x0)), .v (.one (.d (.int .i64) x1)), .v (.one (.d (.int .i64) x2)), .v (.one (.d (.int .i64) x3)), .v (.one (.d (.int .i64) x4))], [] => (g x0 x1 x2 x3 x4).bind fun r => K ⟨.v (.one (.d .bool r)), []⟩
    | _, _ => none
  legit := fun tvs blks K r h => by
    split at h
    · obtain ⟨x, hx, hk⟩ := Option.bind_eq_some_iff.1 h
      refine ⟨_, ?_, hk⟩
      simp only [hx, Option.bind_some]
    · simp at h
def seg_transomref01_among_2 (g : Int → Int → Int → Int → Option Bool) : Seg where
  path := [1, 1, 1, 1, 1]
  prep := []
  keep := [0, 1, 7, 8]
  F := fun tvs blks {β} K => match tvs, blks with
    | [.v (.one (.d (.int .i64) x0)), .v (.one (.d (.int .i64) x1)), .v (.one (.d (.int .i64) x2)), .v (.one (.d (.int .i64) x3))], [] => (g x0 x1 x2 x3).bind fun r => K ⟨.v (.one (.d .bool r)), []⟩
    | _, _ => none
  legit := fun tvs blks K r h => by
    split at h
    · obtain ⟨x, hx, hk⟩ := Option.bind_eq_some_iff.1 h
      refine ⟨_, ?_, hk⟩
      simp only [hx, Option.bind_some]
    · simp at h
noncomputable def env_transomref01_among  (s0 : Int → Int → Int → Int → Int → Option Bool) (s1 : Int → Int → Int → Int → Int → Option Bool) (s2 : Int → Int → Int → Int → Option Bool) : FEnv := { P := Go.Proofs.Try.prog, ct := fun m => none, N := 30, body := Go.Proofs.Try.f77.body.getD .skip, rvs := [.tmp 6], rts := [4], nin := 0, rmv := [], segs := [seg_transomref01_among_0 s0, seg_transomref01_among_1 s1, seg_transomref01_among_2 s2] }
def transomref01_among.c {β : Type}  (s0 : Int → Int → Int → Int → Int → Option Bool) (s1 : Int → Int → Int → Int → Int → Option Bool) (s2 : Int → Int → Int → Int → Option Bool) (a0 : Int) (a1 : Int) (a2 : Int) (ret : Bool → Option β) : Option β := (bif (a2 == (2 : Int)) then ((s0 a0 a1 a2 (128 : Int) (2047 : Int)).bind ret) else ((s0 a0 a1 a2 (0 : Int) (127 : Int)).bind ret))
def transomref01_among.s0c {β : Type}  (s0 : Int → Int → Int → Int → Int → Option Bool) (s1 : Int → Int → Int → Int → Int → Option Bool) (s2 : Int → Int → Int → Int → Option Bool) (x0 : Int) (x1 : Int) (x2 : Int) (x3 : Int) (x4 : Int) (ret : Bool → Option β) : Option β := (bif (x2 == (3 : Int)) then ((s1 x0 x1 x2 (2048 : Int) (65535 : Int)).bind ret) else ((s1 x0 x1 x2 x3 x4).bind ret))
def transomref01_among.s1c {β : Type}  (s0 : Int → Int → Int → Int → Int → Option Bool) (s1 : Int → Int → Int → Int → Int → Option Bool) (s2 : Int → Int → Int → Int → Option Bool) (x0 : Int) (x1 : Int) (x2 : Int) (x3 : Int) (x4 : Int) (ret : Bool → Option β) : Option β := (bif (x2 == (4 : Int)) then ((s2 x0 x1 (65536 : Int) (1114111 : Int)).bind ret) else ((s2 x0 x1 x3 x4).bind ret))
def transomref01_among.s2c {β : Type}  (s0 : Int → Int → Int → Int → Int → Option Bool) (s1 : Int → Int → Int → Int → Int → Option Bool) (s2 : Int → Int → Int → Int → Option Bool) (x0 : Int) (x1 : Int) (x2 : Int) (x3 : Int) (ret : Bool → Option β) : Option β := (bif (decide ((if (x2 > x0) then x2 else x0) > (if (x3 < x1) then x3 else x1))) then (ret (false)) else (bif (decide ((if (x2 > x0) then x2 else x0) < (55296 : Int))) then (ret (true)) else (ret ((decide ((if (x3 < x1) then x3 else x1) > (57343 : Int)))))))
theorem transomref01_among.c_bind {β : Type}  (s0 : Int → Int → Int → Int → Int → Option Bool) (s1 : Int → Int → Int → Int → Int → Option Bool) (s2 : Int → Int → Int → Int → Option Bool) (a0 : Int) (a1 : Int) (a2 : Int) (ret : Bool → Option β) : transomref01_among.c  s0 s1 s2 a0 a1 a2 ret = (transomref01_among.c  s0 s1 s2 a0 a1 a2 some).bind ret := by
  simp only [transomref01_among.c, bif_bind, sum_bind, Option.bind_assoc, Option.bind_some, Option.bind_none, Option.bind_fun_some]
theorem transomref01_among.s0c_bind {β : Type}  (s0 : Int → Int → Int → Int → Int → Option Bool) (s1 : Int → Int → Int → Int → Int → Option Bool) (s2 : Int → Int → Int → Int → Option Bool) (x0 : Int) (x1 : Int) (x2 : Int) (x3 : Int) (x4 : Int) (ret : Bool → Option β) : transomref01_among.s0c  s0 s1 s2 x0 x1 x2 x3 x4 ret = (transomref01_among.s0c  s0 s1 s2 x0 x1 x2 x3 x4 some).bind ret := by
  simp only [transomref01_among.s0c, bif_bind, sum_bind, Option.bind_assoc, Option.bind_some, Option.bind_none, Option.bind_fun_some]
theorem transomref01_among.s1c_bind {β : Type}  (s0 : Int → Int → Int → Int → Int → Option Bool) (s1 : Int → Int → Int → Int → Int → Option Bool) (s2 : Int → Int → Int → Int → Option Bool) (x0 : Int) (x1 : Int) (x2 : Int) (x3 : Int) (x4 : Int) (ret : Bool → Option β) : transomref01_among.s1c  s0 s1 s2 x0 x1 x2 x3 x4 ret = (transomref01_among.s1c  s0 s1 s2 x0 x1 x2 x3 x4 some).bind ret := by
  simp only [transomref01_among.s1c, bif_bind, sum_bind, Option.bind_assoc, Option.bind_some, Option.bind_none, Option.bind_fun_some]
theorem transomref01_among.s2c_bind {β : Type}  (s0 : Int → Int → Int → Int → Int → Option Bool) (s1 : Int → Int → Int → Int → Int → Option Bool) (s2 : Int → Int → Int → Int → Option Bool) (x0 : Int) (x1 : Int) (x2 : Int) (x3 : Int) (ret : Bool → Option β) : transomref01_among.s2c  s0 s1 s2 x0 x1 x2 x3 ret = (transomref01_among.s2c  s0 s1 s2 x0 x1 x2 x3 some).bind ret := by
  simp only [transomref01_among.s2c, bif_bind, sum_bind, Option.bind_assoc, Option.bind_some, Option.bind_none, Option.bind_fun_some]
theorem transomref01_among.ev  (s0 : Int → Int → Int → Int → Int → Option Bool) (s1 : Int → Int → Int → Int → Int → Option Bool) (s2 : Int → Int → Int → Int → Option Bool) (a0 : Int) (a1 : Int) (a2 : Int) : evAt (env_transomref01_among  s0 s1 s2) [] [0, 1, 2] [.v (.one (.d (.int .i64) a0)), .v (.one (.d (.int .i64) a1)), .v (.one (.d (.int .i64) a2))] [] some = transomref01_among.c  s0 s1 s2 a0 a1 a2 (fun r => some ⟨.v (.one (.d .bool r)), []⟩) := by
  kernel_rfl
theorem transomref01_among.s0_ev  (s0 : Int → Int → Int → Int → Int → Option Bool) (s1 : Int → Int → Int → Int → Int → Option Bool) (s2 : Int → Int → Int → Int → Option Bool) (x0 : Int) (x1 : Int) (x2 : Int) (x3 : Int) (x4 : Int) : evAt (env_transomref01_among  s0 s1 s2) [1, 1, 1] [0, 1, 2, 7, 8] [.v (.one (.d (.int .i64) x0)), .v (.one (.d (.int .i64) x1)), .v (.one (.d (.int .i64) x2)), .v (.one (.d (.int .i64) x3)), .v (.one (.d (.int .i64) x4))] [] some = transomref01_among.s0c  s0 s1 s2 x0 x1 x2 x3 x4 (fun r => some ⟨.v (.one (.d .bool r)), []⟩) := by
  kernel_rfl
theorem transomref01_among.s1_ev  (s0 : Int → Int → Int → Int → Int → Option Bool) (s1 : Int → Int → Int → Int → Int → Option Bool) (s2 : Int → Int → Int → Int → Option Bool) (x0 : Int) (x1 : Int) (x2 : Int) (x3 : Int) (x4 : Int) : evAt (env_transomref01_among  s0 s1 s2) [1, 1, 1, 1] [0, 1, 2, 7, 8] [.v (.one (.d (.int .i64) x0)), .v (.one (.d (.int .i64) x1)), .v (.one (.d (.int .i64) x2)), .v (.one (.d (.int .i64) x3)), .v (.one (.d (.int .i64) x4))] [] some = transomref01_among.s1c  s0 s1 s2 x0 x1 x2 x3 x4 (fun r => some ⟨.v (.one (.d .bool r)), []⟩) := by
  kernel_rfl
theorem transomref01_among.s2_ev  (s0 : Int → Int → Int → Int → Int → Option Bool) (s1 : Int → Int → Int → Int → Int → Option Bool) (s2 : Int → Int → Int → Int → Option Bool) (x0 : Int) (x1 : Int) (x2 : Int) (x3 : Int) : evAt (env_transomref01_among  s0 s1 s2) [1, 1, 1, 1, 1] [0, 1, 7, 8] [.v (.one (.d (.int .i64) x0)), .v (.one (.d (.int .i64) x1)), .v (.one (.d (.int .i64) x2)), .v (.one (.d (.int .i64) x3))] [] some = transomref01_among.s2c  s0 s1 s2 x0 x1 x2 x3 (fun r => some ⟨.v (.one (.d .bool r)), []⟩) := by
  kernel_rfl
mutual
def transomref01_among.s0 : Nat → Int → Int → Int → Int → Int → Option Bool
  | 0, _, _, _, _, _ => none
  | k + 1, x0, x1, x2, x3, x4 => transomref01_among.s0c  (transomref01_among.s0 k) (transomref01_among.s1 k) (transomref01_among.s2 k) x0 x1 x2 x3 x4 some
def transomref01_among.s1 : Nat → Int → Int → Int → Int → Int → Option Bool
  | 0, _, _, _, _, _ => none
  | k + 1, x0, x1, x2, x3, x4 => transomref01_among.s1c  (transomref01_among.s0 k) (transomref01_among.s1 k) (transomref01_among.s2 k) x0 x1 x2 x3 x4 some
def transomref01_among.s2 : Nat → Int → Int → Int → Int → Option Bool
  | 0, _, _, _, _ => none
  | k + 1, x0, x1, x2, x3 => transomref01_among.s2c  (transomref01_among.s0 k) (transomref01_among.s1 k) (transomref01_among.s2 k) x0 x1 x2 x3 some
end
def transomref01_among.f (k : Nat) (a0 : Int) (a1 : Int) (a2 : Int) : Option Bool := transomref01_among.c  (transomref01_among.s0 k) (transomref01_among.s1 k) (transomref01_among.s2 k) a0 a1 a2 some
theorem transomref01_among.is  (s0 : Int → Int → Int → Int → Int → Option Bool) (s1 : Int → Int → Int → Int → Int → Option Bool) (s2 : Int → Int → Int → Int → Option Bool) : FnIs (env_transomref01_among  s0 s1 s2) 77 Go.Proofs.Try.f77 := ⟨Go.Proofs.Try.func77, rfl, rfl, rfl, by decide⟩
theorem transomref01_among.envok  (s0 : Int → Int → Int → Int → Int → Option Bool) (s1 : Int → Int → Int → Int → Int → Option Bool) (s2 : Int → Int → Int → Int → Option Bool)  : EnvOK (env_transomref01_among  s0 s1 s2).toEnv := by
  intro f c h
  simp only [env_transomref01_among] at h
  simp at h
theorem transomref01_among.segs_ok : ∀ k, ∀ s ∈ (env_transomref01_among  (transomref01_among.s0 k) (transomref01_among.s1 k) (transomref01_among.s2 k)).segs, SegOK (env_transomref01_among  (transomref01_among.s0 k) (transomref01_among.s1 k) (transomref01_among.s2 k)) Go.Proofs.Try.f77 s
  | 0 => by
    intro s hs
    simp only [env_transomref01_among, List.mem_cons, List.not_mem_nil, or_false] at hs
    rcases hs with rfl | rfl | rfl
    · intro tvs blks res h; exfalso; simp only [seg_transomref01_among_0] at h; split at h <;> simp [transomref01_among.s0] at h
    · intro tvs blks res h; exfalso; simp only [seg_transomref01_among_1] at h; split at h <;> simp [transomref01_among.s1] at h
    · intro tvs blks res h; exfalso; simp only [seg_transomref01_among_2] at h; split at h <;> simp [transomref01_among.s2] at h
  | k + 1 => by
    have ih := transomref01_among.segs_ok k
    intro s hs
    simp only [env_transomref01_among, List.mem_cons, List.not_mem_nil, or_false] at hs
    rcases hs with rfl | rfl | rfl
    · refine seg_of_ev (E := env_transomref01_among  (transomref01_among.s0 k) (transomref01_among.s1 k) (transomref01_among.s2 k)) (transomref01_among.envok _ _ _  ) ⟨(transomref01_among.is  (transomref01_among.s0 k) (transomref01_among.s1 k) (transomref01_among.s2 k)).rvs⟩ ih ?_
      intro tvs blks res h
      simp only [seg_transomref01_among_0] at h
      split at h
      · refine (transomref01_among.s0_ev  (transomref01_among.s0 k) (transomref01_among.s1 k) (transomref01_among.s2 k) _ _ _ _ _ ).trans ?_
        rw [transomref01_among.s0c_bind]
        exact h
      · simp at h
    · refine seg_of_ev (E := env_transomref01_among  (transomref01_among.s0 k) (transomref01_among.s1 k) (transomref01_among.s2 k)) (transomref01_among.envok _ _ _  ) ⟨(transomref01_among.is  (transomref01_among.s0 k) (transomref01_among.s1 k) (transomref01_among.s2 k)).rvs⟩ ih ?_
      intro tvs blks res h
      simp only [seg_transomref01_among_1] at h
      split at h
      · refine (transomref01_among.s1_ev  (transomref01_among.s0 k) (transomref01_among.s1 k) (transomref01_among.s2 k) _ _ _ _ _ ).trans ?_
        rw [transomref01_among.s1c_bind]
        exact h
      · simp at h
    · refine seg_of_ev (E := env_transomref01_among  (transomref01_among.s0 k) (transomref01_among.s1 k) (transomref01_among.s2 k)) (transomref01_among.envok _ _ _  ) ⟨(transomref01_among.is  (transomref01_among.s0 k) (transomref01_among.s1 k) (transomref01_among.s2 k)).rvs⟩ ih ?_
      intro tvs blks res h
      simp only [seg_transomref01_among_2] at h
      split at h
      · refine (transomref01_among.s2_ev  (transomref01_among.s0 k) (transomref01_among.s1 k) (transomref01_among.s2 k) _ _ _ _ ).trans ?_
        rw [transomref01_among.s2c_bind]
        exact h
      · simp at h
theorem transomref01_among.ok (k : Nat) : CtOK Go.Proofs.Try.prog 77 (ct_transomref01_among (transomref01_among.f k)) := by
  refine ct_of_ev (E := env_transomref01_among  (transomref01_among.s0 k) (transomref01_among.s1 k) (transomref01_among.s2 k)) (transomref01_among.is _ _ _ ) (transomref01_among.envok _ _ _  ) (transomref01_among.segs_ok k) rfl ?_
  intro tvs blks res h
  simp only [ct_transomref01_among] at h
  split at h
  · refine (transomref01_among.ev  (transomref01_among.s0 k) (transomref01_among.s1 k) (transomref01_among.s2 k) _ _ _ ).trans ?_
    rw [transomref01_among.c_bind]
    exact h
  · simp at h
end Go.Proofs.Ytlclhjdfbkenfaa.Aev
