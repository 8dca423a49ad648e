/- By a program of this session (AEV): functions of the program as plain functions, and that the machine does what they say. -/
import Derived.Test.YtddlebbjaadbeaaGreatDoorTys
import Derived.Test.YtddlebbjaadbeaaGreatDoorProg
import Derived.Laws.Externs
import Derived.Lib.Bytealg
namespace Go.Proofs.YtddlebbjaadbeaaGreatDoor.Aev
set_option linter.unusedVariables false
set_option linter.unusedSimpArgs false
set_option maxRecDepth 100000
set_option maxHeartbeats 4000000
open Go
/-! ### transomref01_lead: function 112 -/
abbrev G_transomref01_lead : Type := Int → Option (Int × Int)
def ct_transomref01_lead (g : G_transomref01_lead) : Ct where
  nin := 0
  mv := []
  F := fun tvs blks {β} K => match tvs, blks with
    | [.v (.one (.d (.int .i64) a0))], [] => (g a0).bind fun r => K ⟨.tup [(.one (.d (.int .i64) r.1)), (.one (.d (.int .i64) r.2))], []⟩
    | _, _ => none
  legit := fun tvs blks K r h => by
    split at h
    · obtain ⟨x, hx, hk⟩ := Option.bind_eq_some_iff.1 h
      refine ⟨_, ?_, hk⟩
      simp only [hx, Option.bind_some]
    · simp at h
abbrev S_transomref01_lead_0 : Type := Int → Bool → Option (Int × Int)
abbrev S_transomref01_lead_1 : Type := Int → Bool → Option (Int × Int)
def seg_transomref01_lead_0 (g : S_transomref01_lead_0) : Seg where
  path := [1, 3, 1, 4, 0, 1]
  prep := []
  keep := [0, 8]
  F := fun tvs blks {β} K => match tvs, blks with
    | [.v (.one (.d (.int .i64) x0)), .v (.one (.d .bool x1))], [] => (g x0 x1).bind fun r => K ⟨.tup [(.one (.d (.int .i64) r.1)), (.one (.d (.int .i64) r.2))], []⟩
    | _, _ => none
  legit := fun tvs blks K r h => by
    split at h
    · obtain ⟨x, hx, hk⟩ := Option.bind_eq_some_iff.1 h
      refine ⟨_, ?_, hk⟩
      simp only [hx, Option.bind_some]
    · simp at h
def seg_transomref01_lead_1 (g : S_transomref01_lead_1) : Seg where
  path := [1, 3, 1, 3, 1, 4, 0, 1]
  prep := []
  keep := [0, 17]
  F := fun tvs blks {β} K => match tvs, blks with
    | [.v (.one (.d (.int .i64) x0)), .v (.one (.d .bool x1))], [] => (g x0 x1).bind fun r => K ⟨.tup [(.one (.d (.int .i64) r.1)), (.one (.d (.int .i64) r.2))], []⟩
    | _, _ => none
  legit := fun tvs blks K r h => by
    split at h
    · obtain ⟨x, hx, hk⟩ := Option.bind_eq_some_iff.1 h
      refine ⟨_, ?_, hk⟩
      simp only [hx, Option.bind_some]
    · simp at h
noncomputable def env_transomref01_lead  (s0 : S_transomref01_lead_0) (s1 : S_transomref01_lead_1) : FEnv := { P := Go.Proofs.Tryz.prog, ct := fun m => none, N := 35, body := Go.Proofs.Tryz.f112.body.getD .skip, rvs := [.tmp 2, .tmp 3], rts := [3, 3], nin := 0, rmv := [], segs := [seg_transomref01_lead_0 s0, seg_transomref01_lead_1 s1] }
def transomref01_lead.c {β : Type}  (s0 : S_transomref01_lead_0) (s1 : S_transomref01_lead_1) (a0 : Int) (ret : (Int × Int) → Option β) : Option β := (bif (decide (a0 < (128 : Int))) then (ret ((1 : Int), a0)) else (bif (decide (a0 ≥ (192 : Int))) then ((s0 a0 (decide (a0 < (224 : Int)))).bind ret) else ((s0 a0 false).bind ret)))
def transomref01_lead.s0c {β : Type}  (s0 : S_transomref01_lead_0) (s1 : S_transomref01_lead_1) (x0 : Int) (x1 : Bool) (ret : (Int × Int) → Option β) : Option β := (bif x1 then (ret ((2 : Int), (IntKind.wrap IntKind.i64 (x0 - (192 : Int))))) else (bif (decide (x0 ≥ (224 : Int))) then ((s1 x0 (decide (x0 < (240 : Int)))).bind ret) else ((s1 x0 false).bind ret)))
def transomref01_lead.s1c {β : Type}  (s0 : S_transomref01_lead_0) (s1 : S_transomref01_lead_1) (x0 : Int) (x1 : Bool) (ret : (Int × Int) → Option β) : Option β := (bif x1 then (ret ((3 : Int), (IntKind.wrap IntKind.i64 (x0 - (224 : Int))))) else (bif (decide (x0 ≥ (240 : Int))) then (bif (decide (x0 < (248 : Int))) then (ret ((4 : Int), (IntKind.wrap IntKind.i64 (x0 - (240 : Int))))) else (ret ((0 : Int), (0 : Int)))) else (ret ((0 : Int), (0 : Int)))))
theorem transomref01_lead.c_bind {β : Type}  {s0 : S_transomref01_lead_0} {s1 : S_transomref01_lead_1} {a0 : Int} {ret : (Int × Int) → Option β} : transomref01_lead.c  s0 s1 a0 ret = (transomref01_lead.c  s0 s1 a0 some).bind ret := by
  simp only [transomref01_lead.c, bif_bind, sum_bind, Option.bind_assoc, Option.bind_some, Option.bind_none, Option.bind_fun_some]
theorem transomref01_lead.s0c_bind {β : Type}  {s0 : S_transomref01_lead_0} {s1 : S_transomref01_lead_1} {x0 : Int} {x1 : Bool} {ret : (Int × Int) → Option β} : transomref01_lead.s0c  s0 s1 x0 x1 ret = (transomref01_lead.s0c  s0 s1 x0 x1 some).bind ret := by
  simp only [transomref01_lead.s0c, bif_bind, sum_bind, Option.bind_assoc, Option.bind_some, Option.bind_none, Option.bind_fun_some]
theorem transomref01_lead.s1c_bind {β : Type}  {s0 : S_transomref01_lead_0} {s1 : S_transomref01_lead_1} {x0 : Int} {x1 : Bool} {ret : (Int × Int) → Option β} : transomref01_lead.s1c  s0 s1 x0 x1 ret = (transomref01_lead.s1c  s0 s1 x0 x1 some).bind ret := by
  simp only [transomref01_lead.s1c, bif_bind, sum_bind, Option.bind_assoc, Option.bind_some, Option.bind_none, Option.bind_fun_some]
theorem transomref01_lead.ev  {s0 : S_transomref01_lead_0} {s1 : S_transomref01_lead_1} {a0 : Int} : evAt (env_transomref01_lead  s0 s1) [] [0] [.v (.one (.d (.int .i64) a0))] [] some = transomref01_lead.c  s0 s1 a0 (fun r => some ⟨.tup [(.one (.d (.int .i64) r.1)), (.one (.d (.int .i64) r.2))], []⟩) := by
  kernel_rfl
theorem transomref01_lead.s0_ev  {s0 : S_transomref01_lead_0} {s1 : S_transomref01_lead_1} {x0 : Int} {x1 : Bool} : evAt (env_transomref01_lead  s0 s1) [1, 3, 1, 4, 0, 1] [0, 8] [.v (.one (.d (.int .i64) x0)), .v (.one (.d .bool x1))] [] some = transomref01_lead.s0c  s0 s1 x0 x1 (fun r => some ⟨.tup [(.one (.d (.int .i64) r.1)), (.one (.d (.int .i64) r.2))], []⟩) := by
  kernel_rfl
theorem transomref01_lead.s1_ev  {s0 : S_transomref01_lead_0} {s1 : S_transomref01_lead_1} {x0 : Int} {x1 : Bool} : evAt (env_transomref01_lead  s0 s1) [1, 3, 1, 3, 1, 4, 0, 1] [0, 17] [.v (.one (.d (.int .i64) x0)), .v (.one (.d .bool x1))] [] some = transomref01_lead.s1c  s0 s1 x0 x1 (fun r => some ⟨.tup [(.one (.d (.int .i64) r.1)), (.one (.d (.int .i64) r.2))], []⟩) := by
  kernel_rfl
mutual
def transomref01_lead.s0 : Nat → Int → Bool → Option (Int × Int)
  | 0, _, _ => none
  | k + 1, x0, x1 => transomref01_lead.s0c  (transomref01_lead.s0 k) (transomref01_lead.s1 k) x0 x1 some
def transomref01_lead.s1 : Nat → Int → Bool → Option (Int × Int)
  | 0, _, _ => none
  | k + 1, x0, x1 => transomref01_lead.s1c  (transomref01_lead.s0 k) (transomref01_lead.s1 k) x0 x1 some
end
def transomref01_lead.f (k : Nat) (a0 : Int) : Option (Int × Int) := transomref01_lead.c  (transomref01_lead.s0 k) (transomref01_lead.s1 k) a0 some
theorem transomref01_lead.is  {s0 : S_transomref01_lead_0} {s1 : S_transomref01_lead_1} : FnIs (env_transomref01_lead  s0 s1) 112 Go.Proofs.Tryz.f112 := ⟨Go.Proofs.Tryz.func112, rfl, rfl, rfl, by decide⟩
theorem transomref01_lead.envok  {s0 : S_transomref01_lead_0} {s1 : S_transomref01_lead_1}  : EnvOK (env_transomref01_lead  s0 s1).toEnv := by
  intro f c h
  simp only [env_transomref01_lead] at h
  simp at h
noncomputable abbrev transomref01_lead.E (k : Nat) : FEnv := env_transomref01_lead  (transomref01_lead.s0 k) (transomref01_lead.s1 k)
theorem transomref01_lead.hE (k : Nat) : EnvOK (transomref01_lead.E k).toEnv := transomref01_lead.envok 
theorem transomref01_lead.segs_ok : ∀ k, ∀ s ∈ (transomref01_lead.E k).segs, SegOK (transomref01_lead.E k) Go.Proofs.Tryz.f112 s
  | 0 => by
    intro s hs
    simp only [transomref01_lead.E, env_transomref01_lead, List.mem_cons, List.not_mem_nil, or_false] at hs
    rcases hs with rfl | rfl
    · intro tvs blks res h; exfalso; simp only [seg_transomref01_lead_0] at h; split at h <;> simp [transomref01_lead.s0] at h
    · intro tvs blks res h; exfalso; simp only [seg_transomref01_lead_1] at h; split at h <;> simp [transomref01_lead.s1] at h
  | k + 1 => by
    intro s hs
    simp only [transomref01_lead.E, env_transomref01_lead, List.mem_cons, List.not_mem_nil, or_false] at hs
    rcases hs with rfl | rfl
    · refine seg_of_ev (E := transomref01_lead.E k) (transomref01_lead.hE k) ⟨transomref01_lead.is.rvs⟩ (transomref01_lead.segs_ok k) ?_
      intro tvs blks res h
      simp only [seg_transomref01_lead_0] at h
      split at h
      · exact (transomref01_lead.s0_ev.trans transomref01_lead.s0c_bind).trans h
      · simp at h
    · refine seg_of_ev (E := transomref01_lead.E k) (transomref01_lead.hE k) ⟨transomref01_lead.is.rvs⟩ (transomref01_lead.segs_ok k) ?_
      intro tvs blks res h
      simp only [seg_transomref01_lead_1] at h
      split at h
      · exact (transomref01_lead.s1_ev.trans transomref01_lead.s1c_bind).trans h
      · simp at h
theorem transomref01_lead.ok (k : Nat) : CtOK Go.Proofs.Tryz.prog 112 (ct_transomref01_lead (transomref01_lead.f k)) := by
  refine ct_of_ev (E := transomref01_lead.E k) transomref01_lead.is (transomref01_lead.hE k) (transomref01_lead.segs_ok k) rfl ?_
  intro tvs blks res h
  simp only [ct_transomref01_lead] at h
  split at h
  · exact (transomref01_lead.ev.trans transomref01_lead.c_bind).trans h
  · simp at h

/-! ### transomref01_among: function 113 -/
abbrev G_transomref01_among : Type := Int → Int → Int → Option Bool
def ct_transomref01_among (g : G_transomref01_among) : Ct where
  nin := 0
  mv := []
  F := fun tvs blks {β} K => match tvs, blks with
    | [.v (.one (.d (.int .i64) a0)), .v (.one (.d (.int .i64) a1)), .v (.one (.d (.int .i64) a2))], [] => (g a0 a1 a2).bind fun r => K ⟨.v (.one (.d .bool r)), []⟩
    | _, _ => none
  legit := fun tvs blks K r h => by
    split at h
    · obtain ⟨x, hx, hk⟩ := Option.bind_eq_some_iff.1 h
      refine ⟨_, ?_, hk⟩
      simp only [hx, Option.bind_some]
    · simp at h
abbrev S_transomref01_among_0 : Type := Int → Int → Int → Int → Int → Option Bool
abbrev S_transomref01_among_1 : Type := Int → Int → Int → Int → Int → Option Bool
abbrev S_transomref01_among_2 : Type := Int → Int → Int → Int → Option Bool
def seg_transomref01_among_0 (g : S_transomref01_among_0) : Seg where
  path := [1, 1, 1]
  prep := []
  keep := [0, 1, 2, 7, 8]
  F := fun tvs blks {β} K => match tvs, blks with
    | [.v (.one (.d (.int .i64) x0)), .v (.one (.d (.int .i64) x1)), .v (.one (.d (.int .i64) x2)), .v (.one (.d (.int .i64) x3)), .v (.one (.d (.int .i64) x4))], [] => (g x0 x1 x2 x3 x4).bind fun r => K ⟨.v (.one (.d .bool r)), []⟩
    | _, _ => none
  legit := fun tvs blks K r h => by
    split at h
    · obtain ⟨x, hx, hk⟩ := Option.bind_eq_some_iff.1 h
      refine ⟨_, ?_, hk⟩
      simp only [hx, Option.bind_some]
    · simp at h
def seg_transomref01_among_1 (g : S_transomref01_among_1) : Seg where
  path := [1, 1, 1, 1]
  prep := []
  keep := [0, 1, 2, 7, 8]
  F := fun tvs blks {β} K => match tvs, blks with
    | [.v (.one (.d (.int .i64) x0)), .v (.one (.d (.int .i64) x1)), .v (.one (.d (.int .i64) x2)), .v (.one (.d (.int .i64) x3)), .v (.one (.d (.int .i64) x4))], [] => (g x0 x1 x2 x3 x4).bind fun r => K ⟨.v (.one (.d .bool r)), []⟩
    | _, _ => none
  legit := fun tvs blks K r h => by
    split at h
    · obtain ⟨x, hx, hk⟩ := Option.bind_eq_some_iff.1 h
      refine ⟨_, ?_, hk⟩
      simp only [hx, Option.bind_some]
    · simp at h
def seg_transomref01_among_2 (g : S_transomref01_among_2) : Seg where
  path := [1, 1, 1, 1, 1]
  prep := []
  keep := [0, 1, 7, 8]
  F := fun tvs blks {β} K => match tvs, blks with
    | [.v (.one (.d (.int .i64) x0)), .v (.one (.d (.int .i64) x1)), .v (.one (.d (.int .i64) x2)), .v (.one (.d (.int .i64) x3))], [] => (g x0 x1 x2 x3).bind fun r => K ⟨.v (.one (.d .bool r)), []⟩
    | _, _ => none
  legit := fun tvs blks K r h => by
    split at h
    · obtain ⟨x, hx, hk⟩ := Option.bind_eq_some_iff.1 h
      refine ⟨_, ?_, hk⟩
      simp only [hx, Option.bind_some]
    · simp at h
noncomputable def env_transomref01_among  (s0 : S_transomref01_among_0) (s1 : S_transomref01_among_1) (s2 : S_transomref01_among_2) : FEnv := { P := Go.Proofs.Tryz.prog, ct := fun m => none, N := 30, body := Go.Proofs.Tryz.f113.body.getD .skip, rvs := [.tmp 6], rts := [4], nin := 0, rmv := [], segs := [seg_transomref01_among_0 s0, seg_transomref01_among_1 s1, seg_transomref01_among_2 s2] }
def transomref01_among.c {β : Type}  (s0 : S_transomref01_among_0) (s1 : S_transomref01_among_1) (s2 : S_transomref01_among_2) (a0 : Int) (a1 : Int) (a2 : Int) (ret : Bool → Option β) : Option β := (bif (a2 == (2 : Int)) then ((s0 a0 a1 a2 (128 : Int) (2047 : Int)).bind ret) else ((s0 a0 a1 a2 (0 : Int) (127 : Int)).bind ret))
def transomref01_among.s0c {β : Type}  (s0 : S_transomref01_among_0) (s1 : S_transomref01_among_1) (s2 : S_transomref01_among_2) (x0 : Int) (x1 : Int) (x2 : Int) (x3 : Int) (x4 : Int) (ret : Bool → Option β) : Option β := (bif (x2 == (3 : Int)) then ((s1 x0 x1 x2 (2048 : Int) (65535 : Int)).bind ret) else ((s1 x0 x1 x2 x3 x4).bind ret))
def transomref01_among.s1c {β : Type}  (s0 : S_transomref01_among_0) (s1 : S_transomref01_among_1) (s2 : S_transomref01_among_2) (x0 : Int) (x1 : Int) (x2 : Int) (x3 : Int) (x4 : Int) (ret : Bool → Option β) : Option β := (bif (x2 == (4 : Int)) then ((s2 x0 x1 (65536 : Int) (1114111 : Int)).bind ret) else ((s2 x0 x1 x3 x4).bind ret))
def transomref01_among.s2c {β : Type}  (s0 : S_transomref01_among_0) (s1 : S_transomref01_among_1) (s2 : S_transomref01_among_2) (x0 : Int) (x1 : Int) (x2 : Int) (x3 : Int) (ret : Bool → Option β) : Option β := (bif (decide ((if (x2 > x0) then x2 else x0) > (if (x3 < x1) then x3 else x1))) then (ret (false)) else (bif (decide ((if (x2 > x0) then x2 else x0) < (55296 : Int))) then (ret (true)) else (ret ((decide ((if (x3 < x1) then x3 else x1) > (57343 : Int)))))))
theorem transomref01_among.c_bind {β : Type}  {s0 : S_transomref01_among_0} {s1 : S_transomref01_among_1} {s2 : S_transomref01_among_2} {a0 : Int} {a1 : Int} {a2 : Int} {ret : Bool → Option β} : transomref01_among.c  s0 s1 s2 a0 a1 a2 ret = (transomref01_among.c  s0 s1 s2 a0 a1 a2 some).bind ret := by
  simp only [transomref01_among.c, bif_bind, sum_bind, Option.bind_assoc, Option.bind_some, Option.bind_none, Option.bind_fun_some]
theorem transomref01_among.s0c_bind {β : Type}  {s0 : S_transomref01_among_0} {s1 : S_transomref01_among_1} {s2 : S_transomref01_among_2} {x0 : Int} {x1 : Int} {x2 : Int} {x3 : Int} {x4 : Int} {ret : Bool → Option β} : transomref01_among.s0c  s0 s1 s2 x0 x1 x2 x3 x4 ret = (transomref01_among.s0c  s0 s1 s2 x0 x1 x2 x3 x4 some).bind ret := by
  simp only [transomref01_among.s0c, bif_bind, sum_bind, Option.bind_assoc, Option.bind_some, Option.bind_none, Option.bind_fun_some]
theorem transomref01_among.s1c_bind {β : Type}  {s0 : S_transomref01_among_0} {s1 : S_transomref01_among_1} {s2 : S_transomref01_among_2} {x0 : Int} {x1 : Int} {x2 : Int} {x3 : Int} {x4 : Int} {ret : Bool → Option β} : transomref01_among.s1c  s0 s1 s2 x0 x1 x2 x3 x4 ret = (transomref01_among.s1c  s0 s1 s2 x0 x1 x2 x3 x4 some).bind ret := by
  simp only [transomref01_among.s1c, bif_bind, sum_bind, Option.bind_assoc, Option.bind_some, Option.bind_none, Option.bind_fun_some]
theorem transomref01_among.s2c_bind {β : Type}  {s0 : S_transomref01_among_0} {s1 : S_transomref01_among_1} {s2 : S_transomref01_among_2} {x0 : Int} {x1 : Int} {x2 : Int} {x3 : Int} {ret : Bool → Option β} : transomref01_among.s2c  s0 s1 s2 x0 x1 x2 x3 ret = (transomref01_among.s2c  s0 s1 s2 x0 x1 x2 x3 some).bind ret := by
  simp only [transomref01_among.s2c, bif_bind, sum_bind, Option.bind_assoc, Option.bind_some, Option.bind_none, Option.bind_fun_some]
theorem transomref01_among.ev  {s0 : S_transomref01_among_0} {s1 : S_transomref01_among_1} {s2 : S_transomref01_among_2} {a0 : Int} {a1 : Int} {a2 : Int} : evAt (env_transomref01_among  s0 s1 s2) [] [0, 1, 2] [.v (.one (.d (.int .i64) a0)), .v (.one (.d (.int .i64) a1)), .v (.one (.d (.int .i64) a2))] [] some = transomref01_among.c  s0 s1 s2 a0 a1 a2 (fun r => some ⟨.v (.one (.d .bool r)), []⟩) := by
  kernel_rfl
theorem transomref01_among.s0_ev  {s0 : S_transomref01_among_0} {s1 : S_transomref01_among_1} {s2 : S_transomref01_among_2} {x0 : Int} {x1 : Int} {x2 : Int} {x3 : Int} {x4 : Int} : evAt (env_transomref01_among  s0 s1 s2) [1, 1, 1] [0, 1, 2, 7, 8] [.v (.one (.d (.int .i64) x0)), .v (.one (.d (.int .i64) x1)), .v (.one (.d (.int .i64) x2)), .v (.one (.d (.int .i64) x3)), .v (.one (.d (.int .i64) x4))] [] some = transomref01_among.s0c  s0 s1 s2 x0 x1 x2 x3 x4 (fun r => some ⟨.v (.one (.d .bool r)), []⟩) := by
  kernel_rfl
theorem transomref01_among.s1_ev  {s0 : S_transomref01_among_0} {s1 : S_transomref01_among_1} {s2 : S_transomref01_among_2} {x0 : Int} {x1 : Int} {x2 : Int} {x3 : Int} {x4 : Int} : evAt (env_transomref01_among  s0 s1 s2) [1, 1, 1, 1] [0, 1, 2, 7, 8] [.v (.one (.d (.int .i64) x0)), .v (.one (.d (.int .i64) x1)), .v (.one (.d (.int .i64) x2)), .v (.one (.d (.int .i64) x3)), .v (.one (.d (.int .i64) x4))] [] some = transomref01_among.s1c  s0 s1 s2 x0 x1 x2 x3 x4 (fun r => some ⟨.v (.one (.d .bool r)), []⟩) := by
  kernel_rfl
theorem transomref01_among.s2_ev  {s0 : S_transomref01_among_0} {s1 : S_transomref01_among_1} {s2 : S_transomref01_among_2} {x0 : Int} {x1 : Int} {x2 : Int} {x3 : Int} : evAt (env_transomref01_among  s0 s1 s2) [1, 1, 1, 1, 1] [0, 1, 7, 8] [.v (.one (.d (.int .i64) x0)), .v (.one (.d (.int .i64) x1)), .v (.one (.d (.int .i64) x2)), .v (.one (.d (.int .i64) x3))] [] some = transomref01_among.s2c  s0 s1 s2 x0 x1 x2 x3 (fun r => some ⟨.v (.one (.d .bool r)), []⟩) := by
  kernel_rfl
mutual
def transomref01_among.s0 : Nat → Int → Int → Int → Int → Int → Option Bool
  | 0, _, _, _, _, _ => none
  | k + 1, x0, x1, x2, x3, x4 => transomref01_among.s0c  (transomref01_among.s0 k) (transomref01_among.s1 k) (transomref01_among.s2 k) x0 x1 x2 x3 x4 some
def transomref01_among.s1 : Nat → Int → Int → Int → Int → Int → Option Bool
  | 0, _, _, _, _, _ => none
  | k + 1, x0, x1, x2, x3, x4 => transomref01_among.s1c  (transomref01_among.s0 k) (transomref01_among.s1 k) (transomref01_among.s2 k) x0 x1 x2 x3 x4 some
def transomref01_among.s2 : Nat → Int → Int → Int → Int → Option Bool
  | 0, _, _, _, _ => none
  | k + 1, x0, x1, x2, x3 => transomref01_among.s2c  (transomref01_among.s0 k) (transomref01_among.s1 k) (transomref01_among.s2 k) x0 x1 x2 x3 some
end
def transomref01_among.f (k : Nat) (a0 : Int) (a1 : Int) (a2 : Int) : Option Bool := transomref01_among.c  (transomref01_among.s0 k) (transomref01_among.s1 k) (transomref01_among.s2 k) a0 a1 a2 some
theorem transomref01_among.is  {s0 : S_transomref01_among_0} {s1 : S_transomref01_among_1} {s2 : S_transomref01_among_2} : FnIs (env_transomref01_among  s0 s1 s2) 113 Go.Proofs.Tryz.f113 := ⟨Go.Proofs.Tryz.func113, rfl, rfl, rfl, by decide⟩
theorem transomref01_among.envok  {s0 : S_transomref01_among_0} {s1 : S_transomref01_among_1} {s2 : S_transomref01_among_2}  : EnvOK (env_transomref01_among  s0 s1 s2).toEnv := by
  intro f c h
  simp only [env_transomref01_among] at h
  simp at h
noncomputable abbrev transomref01_among.E (k : Nat) : FEnv := env_transomref01_among  (transomref01_among.s0 k) (transomref01_among.s1 k) (transomref01_among.s2 k)
theorem transomref01_among.hE (k : Nat) : EnvOK (transomref01_among.E k).toEnv := transomref01_among.envok 
theorem transomref01_among.segs_ok : ∀ k, ∀ s ∈ (transomref01_among.E k).segs, SegOK (transomref01_among.E k) Go.Proofs.Tryz.f113 s
  | 0 => by
    intro s hs
    simp only [transomref01_among.E, env_transomref01_among, List.mem_cons, List.not_mem_nil, or_false] at hs
    rcases hs with rfl | rfl | rfl
    · intro tvs blks res h; exfalso; simp only [seg_transomref01_among_0] at h; split at h <;> simp [transomref01_among.s0] at h
    · intro tvs blks res h; exfalso; simp only [seg_transomref01_among_1] at h; split at h <;> simp [transomref01_among.s1] at h
    · intro tvs blks res h; exfalso; simp only [seg_transomref01_among_2] at h; split at h <;> simp [transomref01_among.s2] at h
  | k + 1 => by
    intro s hs
    simp only [transomref01_among.E, env_transomref01_among, List.mem_cons, List.not_mem_nil, or_false] at hs
    rcases hs with rfl | rfl | rfl
    · refine seg_of_ev (E := transomref01_among.E k) (transomref01_among.hE k) ⟨transomref01_among.is.rvs⟩ (transomref01_among.segs_ok k) ?_
      intro tvs blks res h
      simp only [seg_transomref01_among_0] at h
      split at h
      · exact (transomref01_among.s0_ev.trans transomref01_among.s0c_bind).trans h
      · simp at h
    · refine seg_of_ev (E := transomref01_among.E k) (transomref01_among.hE k) ⟨transomref01_among.is.rvs⟩ (transomref01_among.segs_ok k) ?_
      intro tvs blks res h
      simp only [seg_transomref01_among_1] at h
      split at h
      · exact (transomref01_among.s1_ev.trans transomref01_among.s1c_bind).trans h
      · simp at h
    · refine seg_of_ev (E := transomref01_among.E k) (transomref01_among.hE k) ⟨transomref01_among.is.rvs⟩ (transomref01_among.segs_ok k) ?_
      intro tvs blks res h
      simp only [seg_transomref01_among_2] at h
      split at h
      · exact (transomref01_among.s2_ev.trans transomref01_among.s2c_bind).trans h
      · simp at h
theorem transomref01_among.ok (k : Nat) : CtOK Go.Proofs.Tryz.prog 113 (ct_transomref01_among (transomref01_among.f k)) := by
  refine ct_of_ev (E := transomref01_among.E k) transomref01_among.is (transomref01_among.hE k) (transomref01_among.segs_ok k) rfl ?_
  intro tvs blks res h
  simp only [ct_transomref01_among] at h
  split at h
  · exact (transomref01_among.ev.trans transomref01_among.c_bind).trans h
  · simp at h

/-! ### transomref01_Next: function 110 -/
abbrev G_transomref01_Next : Type := ByteArray → Option (Int × Int × Int)
def ct_transomref01_Next (g : G_transomref01_Next) : Ct where
  nin := 0
  mv := []
  F := fun tvs blks {β} K => match tvs, blks with
    | [.v (.one (.d .str a0))], [] => (g a0).bind fun r => K ⟨.tup [(.one (.d (.int .i64) r.1)), (.one (.d (.int .i64) r.2.1)), (.one (.d (.int .i64) r.2.2))], []⟩
    | _, _ => none
  legit := fun tvs blks K r h => by
    split at h
    · obtain ⟨x, hx, hk⟩ := Option.bind_eq_some_iff.1 h
      refine ⟨_, ?_, hk⟩
      simp only [hx, Option.bind_some]
    · simp at h
abbrev S_transomref01_Next_0 : Type := ByteArray → Int → Int → Int → Int → Option (Int × Int × Int)
abbrev S_transomref01_Next_1 : Type := ByteArray → Int → Int → Int → Int → Option (Int × Int × Int)
abbrev S_transomref01_Next_2 : Type := ByteArray → Int → Int → Int → Int → Int → Bool → Option (Int × Int × Int)
abbrev S_transomref01_Next_3 : Type := ByteArray → Int → Int → Int → Int → Int → Option (Int × Int × Int)
abbrev S_transomref01_Next_4 : Type := ByteArray → Int → Int → Int → Int → Option (Int × Int × Int)
def seg_transomref01_Next_0 (g : S_transomref01_Next_0) : Seg where
  path := [4, 1, 0, 1, 1, 1, 1, 1]
  prep := []
  keep := [0, 5, 6, 7, 8]
  F := fun tvs blks {β} K => match tvs, blks with
    | [.v (.one (.d .str x0)), .v (.one (.d (.int .i64) x1)), .v (.one (.d (.int .i64) x2)), .v (.one (.d (.int .i64) x3)), .v (.one (.d (.int .i64) x4))], [] => (g x0 x1 x2 x3 x4).bind fun r => K ⟨.tup [(.one (.d (.int .i64) r.1)), (.one (.d (.int .i64) r.2.1)), (.one (.d (.int .i64) r.2.2))], []⟩
    | _, _ => none
  legit := fun tvs blks K r h => by
    split at h
    · obtain ⟨x, hx, hk⟩ := Option.bind_eq_some_iff.1 h
      refine ⟨_, ?_, hk⟩
      simp only [hx, Option.bind_some]
    · simp at h
def seg_transomref01_Next_1 (g : S_transomref01_Next_1) : Seg where
  path := [4, 1, 0, 1, 1, 1, 1, 1, 1, 1]
  prep := []
  keep := [0, 5, 6, 7, 9]
  F := fun tvs blks {β} K => match tvs, blks with
    | [.v (.one (.d .str x0)), .v (.one (.d (.int .i64) x1)), .v (.one (.d (.int .i64) x2)), .v (.one (.d (.int .i64) x3)), .v (.one (.d (.int .i64) x4))], [] => (g x0 x1 x2 x3 x4).bind fun r => K ⟨.tup [(.one (.d (.int .i64) r.1)), (.one (.d (.int .i64) r.2.1)), (.one (.d (.int .i64) r.2.2))], []⟩
    | _, _ => none
  legit := fun tvs blks K r h => by
    split at h
    · obtain ⟨x, hx, hk⟩ := Option.bind_eq_some_iff.1 h
      refine ⟨_, ?_, hk⟩
      simp only [hx, Option.bind_some]
    · simp at h
def seg_transomref01_Next_2 (g : S_transomref01_Next_2) : Seg where
  path := [1, 0, 1, 1, 4, 0, 1, 5, 4, 1, 0, 1, 1, 1, 1, 1, 1, 1]
  prep := []
  keep := [0, 5, 6, 7, 9, 10, 60]
  F := fun tvs blks {β} K => match tvs, blks with
    | [.v (.one (.d .str x0)), .v (.one (.d (.int .i64) x1)), .v (.one (.d (.int .i64) x2)), .v (.one (.d (.int .i64) x3)), .v (.one (.d (.int .i64) x4)), .v (.one (.d (.int .i64) x5)), .v (.one (.d .bool x6))], [] => (g x0 x1 x2 x3 x4 x5 x6).bind fun r => K ⟨.tup [(.one (.d (.int .i64) r.1)), (.one (.d (.int .i64) r.2.1)), (.one (.d (.int .i64) r.2.2))], []⟩
    | _, _ => none
  legit := fun tvs blks K r h => by
    split at h
    · obtain ⟨x, hx, hk⟩ := Option.bind_eq_some_iff.1 h
      refine ⟨_, ?_, hk⟩
      simp only [hx, Option.bind_some]
    · simp at h
def seg_transomref01_Next_3 (g : S_transomref01_Next_3) : Seg where
  path := [1, 1, 1, 4, 0, 1, 5, 4, 1, 0, 1, 1, 1, 1, 1, 1, 1]
  prep := []
  keep := [0, 5, 6, 7, 9, 10]
  F := fun tvs blks {β} K => match tvs, blks with
    | [.v (.one (.d .str x0)), .v (.one (.d (.int .i64) x1)), .v (.one (.d (.int .i64) x2)), .v (.one (.d (.int .i64) x3)), .v (.one (.d (.int .i64) x4)), .v (.one (.d (.int .i64) x5))], [] => (g x0 x1 x2 x3 x4 x5).bind fun r => K ⟨.tup [(.one (.d (.int .i64) r.1)), (.one (.d (.int .i64) r.2.1)), (.one (.d (.int .i64) r.2.2))], []⟩
    | _, _ => none
  legit := fun tvs blks K r h => by
    split at h
    · obtain ⟨x, hx, hk⟩ := Option.bind_eq_some_iff.1 h
      refine ⟨_, ?_, hk⟩
      simp only [hx, Option.bind_some]
    · simp at h
def seg_transomref01_Next_4 (g : S_transomref01_Next_4) : Seg where
  path := [1, 1, 5, 4, 1, 0, 1, 1, 1, 1, 1, 1, 1]
  prep := []
  keep := [0, 5, 6, 7, 9]
  F := fun tvs blks {β} K => match tvs, blks with
    | [.v (.one (.d .str x0)), .v (.one (.d (.int .i64) x1)), .v (.one (.d (.int .i64) x2)), .v (.one (.d (.int .i64) x3)), .v (.one (.d (.int .i64) x4))], [] => (g x0 x1 x2 x3 x4).bind fun r => K ⟨.tup [(.one (.d (.int .i64) r.1)), (.one (.d (.int .i64) r.2.1)), (.one (.d (.int .i64) r.2.2))], []⟩
    | _, _ => none
  legit := fun tvs blks K r h => by
    split at h
    · obtain ⟨x, hx, hk⟩ := Option.bind_eq_some_iff.1 h
      refine ⟨_, ?_, hk⟩
      simp only [hx, Option.bind_some]
    · simp at h
noncomputable def env_transomref01_Next (g112 : G_transomref01_lead) (g113 : G_transomref01_among) (s0 : S_transomref01_Next_0) (s1 : S_transomref01_Next_1) (s2 : S_transomref01_Next_2) (s3 : S_transomref01_Next_3) (s4 : S_transomref01_Next_4) : FEnv := { P := Go.Proofs.Tryz.prog, ct := fun m => if m = 112 then some (ct_transomref01_lead g112) else if m = 113 then some (ct_transomref01_among g113) else none, N := 82, body := Go.Proofs.Tryz.f110.body.getD .skip, rvs := [.tmp 2, .tmp 3, .tmp 4], rts := [3, 3, 3], nin := 0, rmv := [], segs := [seg_transomref01_Next_0 s0, seg_transomref01_Next_1 s1, seg_transomref01_Next_2 s2, seg_transomref01_Next_3 s3, seg_transomref01_Next_4 s4] }
def transomref01_Next.c {β : Type} (g112 : G_transomref01_lead) (g113 : G_transomref01_among) (s0 : S_transomref01_Next_0) (s1 : S_transomref01_Next_1) (s2 : S_transomref01_Next_2) (s3 : S_transomref01_Next_3) (s4 : S_transomref01_Next_4) (a0 : ByteArray) (ret : (Int × Int × Int) → Option β) : Option β := (bif (((ByteArray.size a0) : Int) == (0 : Int)) then (ret ((0 : Int), (0 : Int), (3 : Int))) else (bif (true && (decide ((0 : Int) < ((ByteArray.size a0) : Int)))) then ((g112 (IntKind.wrap IntKind.i64 (bt a0 (0 : Int)))).bind fun r0 => (bif (r0.1 == (0 : Int)) then (ret ((0 : Int), (0 : Int), (7 : Int))) else ((s0 a0 r0.1 r0.2 (1 : Int) (1 : Int)).bind ret))) else none))
def transomref01_Next.s0c {β : Type} (g112 : G_transomref01_lead) (g113 : G_transomref01_among) (s0 : S_transomref01_Next_0) (s1 : S_transomref01_Next_1) (s2 : S_transomref01_Next_2) (s3 : S_transomref01_Next_3) (s4 : S_transomref01_Next_4) (x0 : ByteArray) (x1 : Int) (x2 : Int) (x3 : Int) (x4 : Int) (ret : (Int × Int × Int) → Option β) : Option β := (bif (decide (x4 < x1)) then ((s0 x0 x1 x2 (IntKind.wrap IntKind.i64 (x3 * (64 : Int))) (IntKind.wrap IntKind.i64 (x4 + (1 : Int)))).bind ret) else ((g113 (IntKind.wrap IntKind.i64 (x2 * x3)) (IntKind.wrap IntKind.i64 ((IntKind.wrap IntKind.i64 ((IntKind.wrap IntKind.i64 (x2 * x3)) + x3)) - (1 : Int))) x1).bind fun r0 => (bif (!r0) then (ret ((0 : Int), (0 : Int), (7 : Int))) else ((s1 x0 x1 x2 x3 (1 : Int)).bind ret))))
def transomref01_Next.s1c {β : Type} (g112 : G_transomref01_lead) (g113 : G_transomref01_among) (s0 : S_transomref01_Next_0) (s1 : S_transomref01_Next_1) (s2 : S_transomref01_Next_2) (s3 : S_transomref01_Next_3) (s4 : S_transomref01_Next_4) (x0 : ByteArray) (x1 : Int) (x2 : Int) (x3 : Int) (x4 : Int) (ret : (Int × Int × Int) → Option β) : Option β := (bif (decide (x4 < x1)) then (bif (decide (x4 ≥ ((ByteArray.size x0) : Int))) then (ret ((0 : Int), (0 : Int), (3 : Int))) else (bif ((decide ((0 : Int) ≤ x4)) && (decide (x4 < ((ByteArray.size x0) : Int)))) then (bif (decide ((IntKind.wrap IntKind.i64 (bt x0 x4)) < (128 : Int))) then ((s2 x0 x1 x2 x3 x4 (IntKind.wrap IntKind.i64 (bt x0 x4)) true).bind ret) else ((s2 x0 x1 x2 x3 x4 (IntKind.wrap IntKind.i64 (bt x0 x4)) (decide ((IntKind.wrap IntKind.i64 (bt x0 x4)) > (191 : Int)))).bind ret)) else none)) else (ret (x2, x1, (0 : Int))))
def transomref01_Next.s2c {β : Type} (g112 : G_transomref01_lead) (g113 : G_transomref01_among) (s0 : S_transomref01_Next_0) (s1 : S_transomref01_Next_1) (s2 : S_transomref01_Next_2) (s3 : S_transomref01_Next_3) (s4 : S_transomref01_Next_4) (x0 : ByteArray) (x1 : Int) (x2 : Int) (x3 : Int) (x4 : Int) (x5 : Int) (x6 : Bool) (ret : (Int × Int × Int) → Option β) : Option β := (bif x6 then (ret ((0 : Int), (0 : Int), (7 : Int))) else ((s3 x0 x1 x2 x3 x4 x5).bind ret))
def transomref01_Next.s3c {β : Type} (g112 : G_transomref01_lead) (g113 : G_transomref01_among) (s0 : S_transomref01_Next_0) (s1 : S_transomref01_Next_1) (s2 : S_transomref01_Next_2) (s3 : S_transomref01_Next_3) (s4 : S_transomref01_Next_4) (x0 : ByteArray) (x1 : Int) (x2 : Int) (x3 : Int) (x4 : Int) (x5 : Int) (ret : (Int × Int × Int) → Option β) : Option β := ((g113 (IntKind.wrap IntKind.i64 ((IntKind.wrap IntKind.i64 ((IntKind.wrap IntKind.i64 ((IntKind.wrap IntKind.i64 (x2 * (64 : Int))) + x5)) - (128 : Int))) * (IntKind.wrap IntKind.i64 (Int.tdiv x3 (64 : Int))))) (IntKind.wrap IntKind.i64 ((IntKind.wrap IntKind.i64 ((IntKind.wrap IntKind.i64 ((IntKind.wrap IntKind.i64 ((IntKind.wrap IntKind.i64 ((IntKind.wrap IntKind.i64 (x2 * (64 : Int))) + x5)) - (128 : Int))) * (IntKind.wrap IntKind.i64 (Int.tdiv x3 (64 : Int))))) + (IntKind.wrap IntKind.i64 (Int.tdiv x3 (64 : Int))))) - (1 : Int))) x1).bind fun r0 => (bif (!r0) then (ret ((0 : Int), (0 : Int), (7 : Int))) else ((s4 x0 x1 (IntKind.wrap IntKind.i64 ((IntKind.wrap IntKind.i64 ((IntKind.wrap IntKind.i64 (x2 * (64 : Int))) + x5)) - (128 : Int))) (IntKind.wrap IntKind.i64 (Int.tdiv x3 (64 : Int))) x4).bind ret)))
def transomref01_Next.s4c {β : Type} (g112 : G_transomref01_lead) (g113 : G_transomref01_among) (s0 : S_transomref01_Next_0) (s1 : S_transomref01_Next_1) (s2 : S_transomref01_Next_2) (s3 : S_transomref01_Next_3) (s4 : S_transomref01_Next_4) (x0 : ByteArray) (x1 : Int) (x2 : Int) (x3 : Int) (x4 : Int) (ret : (Int × Int × Int) → Option β) : Option β := ((s1 x0 x1 x2 x3 (IntKind.wrap IntKind.i64 (x4 + (1 : Int)))).bind ret)
theorem transomref01_Next.c_bind {β : Type} {g112 : G_transomref01_lead} {g113 : G_transomref01_among} {s0 : S_transomref01_Next_0} {s1 : S_transomref01_Next_1} {s2 : S_transomref01_Next_2} {s3 : S_transomref01_Next_3} {s4 : S_transomref01_Next_4} {a0 : ByteArray} {ret : (Int × Int × Int) → Option β} : transomref01_Next.c g112 g113 s0 s1 s2 s3 s4 a0 ret = (transomref01_Next.c g112 g113 s0 s1 s2 s3 s4 a0 some).bind ret := by
  simp only [transomref01_Next.c, bif_bind, sum_bind, Option.bind_assoc, Option.bind_some, Option.bind_none, Option.bind_fun_some]
theorem transomref01_Next.s0c_bind {β : Type} {g112 : G_transomref01_lead} {g113 : G_transomref01_among} {s0 : S_transomref01_Next_0} {s1 : S_transomref01_Next_1} {s2 : S_transomref01_Next_2} {s3 : S_transomref01_Next_3} {s4 : S_transomref01_Next_4} {x0 : ByteArray} {x1 : Int} {x2 : Int} {x3 : Int} {x4 : Int} {ret : (Int × Int × Int) → Option β} : transomref01_Next.s0c g112 g113 s0 s1 s2 s3 s4 x0 x1 x2 x3 x4 ret = (transomref01_Next.s0c g112 g113 s0 s1 s2 s3 s4 x0 x1 x2 x3 x4 some).bind ret := by
  simp only [transomref01_Next.s0c, bif_bind, sum_bind, Option.bind_assoc, Option.bind_some, Option.bind_none, Option.bind_fun_some]
theorem transomref01_Next.s1c_bind {β : Type} {g112 : G_transomref01_lead} {g113 : G_transomref01_among} {s0 : S_transomref01_Next_0} {s1 : S_transomref01_Next_1} {s2 : S_transomref01_Next_2} {s3 : S_transomref01_Next_3} {s4 : S_transomref01_Next_4} {x0 : ByteArray} {x1 : Int} {x2 : Int} {x3 : Int} {x4 : Int} {ret : (Int × Int × Int) → Option β} : transomref01_Next.s1c g112 g113 s0 s1 s2 s3 s4 x0 x1 x2 x3 x4 ret = (transomref01_Next.s1c g112 g113 s0 s1 s2 s3 s4 x0 x1 x2 x3 x4 some).bind ret := by
  simp only [transomref01_Next.s1c, bif_bind, sum_bind, Option.bind_assoc, Option.bind_some, Option.bind_none, Option.bind_fun_some]
theorem transomref01_Next.s2c_bind {β : Type} {g112 : G_transomref01_lead} {g113 : G_transomref01_among} {s0 : S_transomref01_Next_0} {s1 : S_transomref01_Next_1} {s2 : S_transomref01_Next_2} {s3 : S_transomref01_Next_3} {s4 : S_transomref01_Next_4} {x0 : ByteArray} {x1 : Int} {x2 : Int} {x3 : Int} {x4 : Int} {x5 : Int} {x6 : Bool} {ret : (Int × Int × Int) → Option β} : transomref01_Next.s2c g112 g113 s0 s1 s2 s3 s4 x0 x1 x2 x3 x4 x5 x6 ret = (transomref01_Next.s2c g112 g113 s0 s1 s2 s3 s4 x0 x1 x2 x3 x4 x5 x6 some).bind ret := by
  simp only [transomref01_Next.s2c, bif_bind, sum_bind, Option.bind_assoc, Option.bind_some, Option.bind_none, Option.bind_fun_some]
theorem transomref01_Next.s3c_bind {β : Type} {g112 : G_transomref01_lead} {g113 : G_transomref01_among} {s0 : S_transomref01_Next_0} {s1 : S_transomref01_Next_1} {s2 : S_transomref01_Next_2} {s3 : S_transomref01_Next_3} {s4 : S_transomref01_Next_4} {x0 : ByteArray} {x1 : Int} {x2 : Int} {x3 : Int} {x4 : Int} {x5 : Int} {ret : (Int × Int × Int) → Option β} : transomref01_Next.s3c g112 g113 s0 s1 s2 s3 s4 x0 x1 x2 x3 x4 x5 ret = (transomref01_Next.s3c g112 g113 s0 s1 s2 s3 s4 x0 x1 x2 x3 x4 x5 some).bind ret := by
  simp only [transomref01_Next.s3c, bif_bind, sum_bind, Option.bind_assoc, Option.bind_some, Option.bind_none, Option.bind_fun_some]
theorem transomref01_Next.s4c_bind {β : Type} {g112 : G_transomref01_lead} {g113 : G_transomref01_among} {s0 : S_transomref01_Next_0} {s1 : S_transomref01_Next_1} {s2 : S_transomref01_Next_2} {s3 : S_transomref01_Next_3} {s4 : S_transomref01_Next_4} {x0 : ByteArray} {x1 : Int} {x2 : Int} {x3 : Int} {x4 : Int} {ret : (Int × Int × Int) → Option β} : transomref01_Next.s4c g112 g113 s0 s1 s2 s3 s4 x0 x1 x2 x3 x4 ret = (transomref01_Next.s4c g112 g113 s0 s1 s2 s3 s4 x0 x1 x2 x3 x4 some).bind ret := by
  simp only [transomref01_Next.s4c, bif_bind, sum_bind, Option.bind_assoc, Option.bind_some, Option.bind_none, Option.bind_fun_some]
theorem transomref01_Next.ev {g112 : G_transomref01_lead} {g113 : G_transomref01_among} {s0 : S_transomref01_Next_0} {s1 : S_transomref01_Next_1} {s2 : S_transomref01_Next_2} {s3 : S_transomref01_Next_3} {s4 : S_transomref01_Next_4} {a0 : ByteArray} : evAt (env_transomref01_Next g112 g113 s0 s1 s2 s3 s4) [] [0] [.v (.one (.d .str a0))] [] some = transomref01_Next.c g112 g113 s0 s1 s2 s3 s4 a0 (fun r => some ⟨.tup [(.one (.d (.int .i64) r.1)), (.one (.d (.int .i64) r.2.1)), (.one (.d (.int .i64) r.2.2))], []⟩) := by
  kernel_rfl
theorem transomref01_Next.s0_ev {g112 : G_transomref01_lead} {g113 : G_transomref01_among} {s0 : S_transomref01_Next_0} {s1 : S_transomref01_Next_1} {s2 : S_transomref01_Next_2} {s3 : S_transomref01_Next_3} {s4 : S_transomref01_Next_4} {x0 : ByteArray} {x1 : Int} {x2 : Int} {x3 : Int} {x4 : Int} : evAt (env_transomref01_Next g112 g113 s0 s1 s2 s3 s4) [4, 1, 0, 1, 1, 1, 1, 1] [0, 5, 6, 7, 8] [.v (.one (.d .str x0)), .v (.one (.d (.int .i64) x1)), .v (.one (.d (.int .i64) x2)), .v (.one (.d (.int .i64) x3)), .v (.one (.d (.int .i64) x4))] [] some = transomref01_Next.s0c g112 g113 s0 s1 s2 s3 s4 x0 x1 x2 x3 x4 (fun r => some ⟨.tup [(.one (.d (.int .i64) r.1)), (.one (.d (.int .i64) r.2.1)), (.one (.d (.int .i64) r.2.2))], []⟩) := by
  kernel_rfl
theorem transomref01_Next.s1_ev {g112 : G_transomref01_lead} {g113 : G_transomref01_among} {s0 : S_transomref01_Next_0} {s1 : S_transomref01_Next_1} {s2 : S_transomref01_Next_2} {s3 : S_transomref01_Next_3} {s4 : S_transomref01_Next_4} {x0 : ByteArray} {x1 : Int} {x2 : Int} {x3 : Int} {x4 : Int} : evAt (env_transomref01_Next g112 g113 s0 s1 s2 s3 s4) [4, 1, 0, 1, 1, 1, 1, 1, 1, 1] [0, 5, 6, 7, 9] [.v (.one (.d .str x0)), .v (.one (.d (.int .i64) x1)), .v (.one (.d (.int .i64) x2)), .v (.one (.d (.int .i64) x3)), .v (.one (.d (.int .i64) x4))] [] some = transomref01_Next.s1c g112 g113 s0 s1 s2 s3 s4 x0 x1 x2 x3 x4 (fun r => some ⟨.tup [(.one (.d (.int .i64) r.1)), (.one (.d (.int .i64) r.2.1)), (.one (.d (.int .i64) r.2.2))], []⟩) := by
  kernel_rfl
theorem transomref01_Next.s2_ev {g112 : G_transomref01_lead} {g113 : G_transomref01_among} {s0 : S_transomref01_Next_0} {s1 : S_transomref01_Next_1} {s2 : S_transomref01_Next_2} {s3 : S_transomref01_Next_3} {s4 : S_transomref01_Next_4} {x0 : ByteArray} {x1 : Int} {x2 : Int} {x3 : Int} {x4 : Int} {x5 : Int} {x6 : Bool} : evAt (env_transomref01_Next g112 g113 s0 s1 s2 s3 s4) [1, 0, 1, 1, 4, 0, 1, 5, 4, 1, 0, 1, 1, 1, 1, 1, 1, 1] [0, 5, 6, 7, 9, 10, 60] [.v (.one (.d .str x0)), .v (.one (.d (.int .i64) x1)), .v (.one (.d (.int .i64) x2)), .v (.one (.d (.int .i64) x3)), .v (.one (.d (.int .i64) x4)), .v (.one (.d (.int .i64) x5)), .v (.one (.d .bool x6))] [] some = transomref01_Next.s2c g112 g113 s0 s1 s2 s3 s4 x0 x1 x2 x3 x4 x5 x6 (fun r => some ⟨.tup [(.one (.d (.int .i64) r.1)), (.one (.d (.int .i64) r.2.1)), (.one (.d (.int .i64) r.2.2))], []⟩) := by
  kernel_rfl
theorem transomref01_Next.s3_ev {g112 : G_transomref01_lead} {g113 : G_transomref01_among} {s0 : S_transomref01_Next_0} {s1 : S_transomref01_Next_1} {s2 : S_transomref01_Next_2} {s3 : S_transomref01_Next_3} {s4 : S_transomref01_Next_4} {x0 : ByteArray} {x1 : Int} {x2 : Int} {x3 : Int} {x4 : Int} {x5 : Int} : evAt (env_transomref01_Next g112 g113 s0 s1 s2 s3 s4) [1, 1, 1, 4, 0, 1, 5, 4, 1, 0, 1, 1, 1, 1, 1, 1, 1] [0, 5, 6, 7, 9, 10] [.v (.one (.d .str x0)), .v (.one (.d (.int .i64) x1)), .v (.one (.d (.int .i64) x2)), .v (.one (.d (.int .i64) x3)), .v (.one (.d (.int .i64) x4)), .v (.one (.d (.int .i64) x5))] [] some = transomref01_Next.s3c g112 g113 s0 s1 s2 s3 s4 x0 x1 x2 x3 x4 x5 (fun r => some ⟨.tup [(.one (.d (.int .i64) r.1)), (.one (.d (.int .i64) r.2.1)), (.one (.d (.int .i64) r.2.2))], []⟩) := by
  kernel_rfl
theorem transomref01_Next.s4_ev {g112 : G_transomref01_lead} {g113 : G_transomref01_among} {s0 : S_transomref01_Next_0} {s1 : S_transomref01_Next_1} {s2 : S_transomref01_Next_2} {s3 : S_transomref01_Next_3} {s4 : S_transomref01_Next_4} {x0 : ByteArray} {x1 : Int} {x2 : Int} {x3 : Int} {x4 : Int} : evAt (env_transomref01_Next g112 g113 s0 s1 s2 s3 s4) [1, 1, 5, 4, 1, 0, 1, 1, 1, 1, 1, 1, 1] [0, 5, 6, 7, 9] [.v (.one (.d .str x0)), .v (.one (.d (.int .i64) x1)), .v (.one (.d (.int .i64) x2)), .v (.one (.d (.int .i64) x3)), .v (.one (.d (.int .i64) x4))] [] some = transomref01_Next.s4c g112 g113 s0 s1 s2 s3 s4 x0 x1 x2 x3 x4 (fun r => some ⟨.tup [(.one (.d (.int .i64) r.1)), (.one (.d (.int .i64) r.2.1)), (.one (.d (.int .i64) r.2.2))], []⟩) := by
  kernel_rfl
mutual
def transomref01_Next.s0 : Nat → ByteArray → Int → Int → Int → Int → Option (Int × Int × Int)
  | 0, _, _, _, _, _ => none
  | k + 1, x0, x1, x2, x3, x4 => transomref01_Next.s0c (transomref01_lead.f k) (transomref01_among.f k) (transomref01_Next.s0 k) (transomref01_Next.s1 k) (transomref01_Next.s2 k) (transomref01_Next.s3 k) (transomref01_Next.s4 k) x0 x1 x2 x3 x4 some
def transomref01_Next.s1 : Nat → ByteArray → Int → Int → Int → Int → Option (Int × Int × Int)
  | 0, _, _, _, _, _ => none
  | k + 1, x0, x1, x2, x3, x4 => transomref01_Next.s1c (transomref01_lead.f k) (transomref01_among.f k) (transomref01_Next.s0 k) (transomref01_Next.s1 k) (transomref01_Next.s2 k) (transomref01_Next.s3 k) (transomref01_Next.s4 k) x0 x1 x2 x3 x4 some
def transomref01_Next.s2 : Nat → ByteArray → Int → Int → Int → Int → Int → Bool → Option (Int × Int × Int)
  | 0, _, _, _, _, _, _, _ => none
  | k + 1, x0, x1, x2, x3, x4, x5, x6 => transomref01_Next.s2c (transomref01_lead.f k) (transomref01_among.f k) (transomref01_Next.s0 k) (transomref01_Next.s1 k) (transomref01_Next.s2 k) (transomref01_Next.s3 k) (transomref01_Next.s4 k) x0 x1 x2 x3 x4 x5 x6 some
def transomref01_Next.s3 : Nat → ByteArray → Int → Int → Int → Int → Int → Option (Int × Int × Int)
  | 0, _, _, _, _, _, _ => none
  | k + 1, x0, x1, x2, x3, x4, x5 => transomref01_Next.s3c (transomref01_lead.f k) (transomref01_among.f k) (transomref01_Next.s0 k) (transomref01_Next.s1 k) (transomref01_Next.s2 k) (transomref01_Next.s3 k) (transomref01_Next.s4 k) x0 x1 x2 x3 x4 x5 some
def transomref01_Next.s4 : Nat → ByteArray → Int → Int → Int → Int → Option (Int × Int × Int)
  | 0, _, _, _, _, _ => none
  | k + 1, x0, x1, x2, x3, x4 => transomref01_Next.s4c (transomref01_lead.f k) (transomref01_among.f k) (transomref01_Next.s0 k) (transomref01_Next.s1 k) (transomref01_Next.s2 k) (transomref01_Next.s3 k) (transomref01_Next.s4 k) x0 x1 x2 x3 x4 some
end
def transomref01_Next.f (k : Nat) (a0 : ByteArray) : Option (Int × Int × Int) := transomref01_Next.c (transomref01_lead.f k) (transomref01_among.f k) (transomref01_Next.s0 k) (transomref01_Next.s1 k) (transomref01_Next.s2 k) (transomref01_Next.s3 k) (transomref01_Next.s4 k) a0 some
theorem transomref01_Next.is {g112 : G_transomref01_lead} {g113 : G_transomref01_among} {s0 : S_transomref01_Next_0} {s1 : S_transomref01_Next_1} {s2 : S_transomref01_Next_2} {s3 : S_transomref01_Next_3} {s4 : S_transomref01_Next_4} : FnIs (env_transomref01_Next g112 g113 s0 s1 s2 s3 s4) 110 Go.Proofs.Tryz.f110 := ⟨Go.Proofs.Tryz.func110, rfl, rfl, rfl, by decide⟩
theorem transomref01_Next.envok {g112 : G_transomref01_lead} {g113 : G_transomref01_among} {s0 : S_transomref01_Next_0} {s1 : S_transomref01_Next_1} {s2 : S_transomref01_Next_2} {s3 : S_transomref01_Next_3} {s4 : S_transomref01_Next_4} (h112 : CtOK Go.Proofs.Tryz.prog 112 (ct_transomref01_lead g112)) (h113 : CtOK Go.Proofs.Tryz.prog 113 (ct_transomref01_among g113)) : EnvOK (env_transomref01_Next g112 g113 s0 s1 s2 s3 s4).toEnv := by
  intro f c h
  simp only [env_transomref01_Next] at h
  split at h
  · rename_i e; subst e; cases h; exact h112
  split at h
  · rename_i e; subst e; cases h; exact h113
  simp at h
noncomputable abbrev transomref01_Next.E (k : Nat) : FEnv := env_transomref01_Next (transomref01_lead.f k) (transomref01_among.f k) (transomref01_Next.s0 k) (transomref01_Next.s1 k) (transomref01_Next.s2 k) (transomref01_Next.s3 k) (transomref01_Next.s4 k)
theorem transomref01_Next.hE (k : Nat) : EnvOK (transomref01_Next.E k).toEnv := transomref01_Next.envok (transomref01_lead.ok k) (transomref01_among.ok k)
theorem transomref01_Next.segs_ok : ∀ k, ∀ s ∈ (transomref01_Next.E k).segs, SegOK (transomref01_Next.E k) Go.Proofs.Tryz.f110 s
  | 0 => by
    intro s hs
    simp only [transomref01_Next.E, env_transomref01_Next, List.mem_cons, List.not_mem_nil, or_false] at hs
    rcases hs with rfl | rfl | rfl | rfl | rfl
    · intro tvs blks res h; exfalso; simp only [seg_transomref01_Next_0] at h; split at h <;> simp [transomref01_Next.s0] at h
    · intro tvs blks res h; exfalso; simp only [seg_transomref01_Next_1] at h; split at h <;> simp [transomref01_Next.s1] at h
    · intro tvs blks res h; exfalso; simp only [seg_transomref01_Next_2] at h; split at h <;> simp [transomref01_Next.s2] at h
    · intro tvs blks res h; exfalso; simp only [seg_transomref01_Next_3] at h; split at h <;> simp [transomref01_Next.s3] at h
    · intro tvs blks res h; exfalso; simp only [seg_transomref01_Next_4] at h; split at h <;> simp [transomref01_Next.s4] at h
  | k + 1 => by
    intro s hs
    simp only [transomref01_Next.E, env_transomref01_Next, List.mem_cons, List.not_mem_nil, or_false] at hs
    rcases hs with rfl | rfl | rfl | rfl | rfl
    · refine seg_of_ev (E := transomref01_Next.E k) (transomref01_Next.hE k) ⟨transomref01_Next.is.rvs⟩ (transomref01_Next.segs_ok k) ?_
      intro tvs blks res h
      simp only [seg_transomref01_Next_0] at h
      split at h
      · exact (transomref01_Next.s0_ev.trans transomref01_Next.s0c_bind).trans h
      · simp at h
    · refine seg_of_ev (E := transomref01_Next.E k) (transomref01_Next.hE k) ⟨transomref01_Next.is.rvs⟩ (transomref01_Next.segs_ok k) ?_
      intro tvs blks res h
      simp only [seg_transomref01_Next_1] at h
      split at h
      · exact (transomref01_Next.s1_ev.trans transomref01_Next.s1c_bind).trans h
      · simp at h
    · refine seg_of_ev (E := transomref01_Next.E k) (transomref01_Next.hE k) ⟨transomref01_Next.is.rvs⟩ (transomref01_Next.segs_ok k) ?_
      intro tvs blks res h
      simp only [seg_transomref01_Next_2] at h
      split at h
      · exact (transomref01_Next.s2_ev.trans transomref01_Next.s2c_bind).trans h
      · simp at h
    · refine seg_of_ev (E := transomref01_Next.E k) (transomref01_Next.hE k) ⟨transomref01_Next.is.rvs⟩ (transomref01_Next.segs_ok k) ?_
      intro tvs blks res h
      simp only [seg_transomref01_Next_3] at h
      split at h
      · exact (transomref01_Next.s3_ev.trans transomref01_Next.s3c_bind).trans h
      · simp at h
    · refine seg_of_ev (E := transomref01_Next.E k) (transomref01_Next.hE k) ⟨transomref01_Next.is.rvs⟩ (transomref01_Next.segs_ok k) ?_
      intro tvs blks res h
      simp only [seg_transomref01_Next_4] at h
      split at h
      · exact (transomref01_Next.s4_ev.trans transomref01_Next.s4c_bind).trans h
      · simp at h
theorem transomref01_Next.ok (k : Nat) : CtOK Go.Proofs.Tryz.prog 110 (ct_transomref01_Next (transomref01_Next.f k)) := by
  refine ct_of_ev (E := transomref01_Next.E k) transomref01_Next.is (transomref01_Next.hE k) (transomref01_Next.segs_ok k) rfl ?_
  intro tvs blks res h
  simp only [ct_transomref01_Next] at h
  split at h
  · exact (transomref01_Next.ev.trans transomref01_Next.c_bind).trans h
  · simp at h
end Go.Proofs.YtddlebbjaadbeaaGreatDoor.Aev
