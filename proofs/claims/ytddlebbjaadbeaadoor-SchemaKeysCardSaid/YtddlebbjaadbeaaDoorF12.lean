/- By a program of this session (AEV): functions of the program as plain functions, and that the machine does what they say. -/
import Derived.Test.YtddlebbjaadbeaaDoorTys
import Derived.Test.YtddlebbjaadbeaaDoorProg
import Derived.Laws.Externs
import Derived.Lib.Bytealg
import Derived.Test.YtddlebbjaadbeaaDoorF11
namespace Go.Proofs.YtddlebbjaadbeaaDoor.Aev
set_option linter.unusedVariables false
set_option linter.unusedSimpArgs false
set_option maxRecDepth 100000
set_option maxHeartbeats 4000000
open Go
/-! ### transomref02_fraction: function 87 -/
abbrev G_transomref02_fraction : Type := Int → Option Int
def ct_transomref02_fraction (g : G_transomref02_fraction) : Ct where
  nin := 0
  mv := []
  F := fun tvs blks {β} K => match tvs, blks with
    | [.v (.one (.d (.int .u64) a0))], [] => (g a0).bind fun r => K ⟨.v (.one (.d (.int .u64) r)), []⟩
    | _, _ => none
  legit := fun tvs blks K r h => by
    split at h
    · obtain ⟨x, hx, hk⟩ := Option.bind_eq_some_iff.1 h
      refine ⟨_, ?_, hk⟩
      simp only [hx, Option.bind_some]
    · simp at h
noncomputable def env_transomref02_fraction   : FEnv := { P := Go.Proofs.Tryd.prog, ct := fun m => none, N := 5, body := Go.Proofs.Tryd.f87.body.getD .skip, rvs := [.tmp 2], rts := [29], nin := 0, rmv := [], segs := [] }
def transomref02_fraction.c {β : Type}   (a0 : Int) (ret : Int → Option β) : Option β := (ret ((IntKind.wrap IntKind.u64 ((BitVec.toNat ((BitVec.ofInt (64 : Nat) a0) &&& (BitVec.ofInt (64 : Nat) (4503599627370495 : Int)))) : Int))))
theorem transomref02_fraction.c_bind {β : Type}   {a0 : Int} {ret : Int → Option β} : transomref02_fraction.c   a0 ret = (transomref02_fraction.c   a0 some).bind ret := by
  simp only [transomref02_fraction.c, bif_bind, sum_bind, Option.bind_assoc, Option.bind_some, Option.bind_none, Option.bind_fun_some]
theorem transomref02_fraction.ev   {a0 : Int} : evAt (env_transomref02_fraction  ) [] [0] [.v (.one (.d (.int .u64) a0))] [] some = transomref02_fraction.c   a0 (fun r => some ⟨.v (.one (.d (.int .u64) r)), []⟩) := by
  kernel_rfl
def transomref02_fraction.f (k : Nat) (a0 : Int) : Option Int := transomref02_fraction.c   a0 some
theorem transomref02_fraction.is   : FnIs (env_transomref02_fraction  ) 87 Go.Proofs.Tryd.f87 := ⟨Go.Proofs.Tryd.func87, rfl, rfl, rfl, by decide⟩
theorem transomref02_fraction.envok    : EnvOK (env_transomref02_fraction  ).toEnv := by
  intro f c h
  simp only [env_transomref02_fraction] at h
  simp at h
noncomputable abbrev transomref02_fraction.E (k : Nat) : FEnv := env_transomref02_fraction  
theorem transomref02_fraction.hE (k : Nat) : EnvOK (transomref02_fraction.E k).toEnv := transomref02_fraction.envok 
theorem transomref02_fraction.ok (k : Nat) : CtOK Go.Proofs.Tryd.prog 87 (ct_transomref02_fraction (transomref02_fraction.f k)) := by
  refine ct_of_ev (E := transomref02_fraction.E k) transomref02_fraction.is (transomref02_fraction.hE k) (fun s hs => by simp [transomref02_fraction.E, env_transomref02_fraction] at hs) rfl ?_
  intro tvs blks res h
  simp only [ct_transomref02_fraction] at h
  split at h
  · exact (transomref02_fraction.ev.trans transomref02_fraction.c_bind).trans h
  · simp at h

/-! ### transomref02_Class: function 71 -/
abbrev G_transomref02_Class : Type := Int → Option Int
def ct_transomref02_Class (g : G_transomref02_Class) : Ct where
  nin := 0
  mv := []
  F := fun tvs blks {β} K => match tvs, blks with
    | [.v (.one (.d (.int .u64) a0))], [] => (g a0).bind fun r => K ⟨.v (.one (.d (.int .i64) r)), []⟩
    | _, _ => none
  legit := fun tvs blks K r h => by
    split at h
    · obtain ⟨x, hx, hk⟩ := Option.bind_eq_some_iff.1 h
      refine ⟨_, ?_, hk⟩
      simp only [hx, Option.bind_some]
    · simp at h
abbrev S_transomref02_Class_0 : Type := Int → Bool → Option Int
def seg_transomref02_Class_0 (g : S_transomref02_Class_0) : Seg where
  path := [1, 4, 0, 1]
  prep := []
  keep := [0, 3]
  F := fun tvs blks {β} K => match tvs, blks with
    | [.v (.one (.d (.int .u64) x0)), .v (.one (.d .bool x1))], [] => (g x0 x1).bind fun r => K ⟨.v (.one (.d (.int .i64) r)), []⟩
    | _, _ => none
  legit := fun tvs blks K r h => by
    split at h
    · obtain ⟨x, hx, hk⟩ := Option.bind_eq_some_iff.1 h
      refine ⟨_, ?_, hk⟩
      simp only [hx, Option.bind_some]
    · simp at h
noncomputable def env_transomref02_Class (g86 : G_transomref02_exponent) (g87 : G_transomref02_fraction) (s0 : S_transomref02_Class_0) : FEnv := { P := Go.Proofs.Tryd.prog, ct := fun m => if m = 86 then some (ct_transomref02_exponent g86) else if m = 87 then some (ct_transomref02_fraction g87) else none, N := 29, body := Go.Proofs.Tryd.f71.body.getD .skip, rvs := [.tmp 2], rts := [3], nin := 0, rmv := [], segs := [seg_transomref02_Class_0 s0] }
def transomref02_Class.c {β : Type} (g86 : G_transomref02_exponent) (g87 : G_transomref02_fraction) (s0 : S_transomref02_Class_0) (a0 : Int) (ret : Int → Option β) : Option β := ((g86 a0).bind fun r0 => (bif (r0 == (2047 : Int)) then ((g87 a0).bind fun r1 => ((s0 a0 (r1 != (0 : Int))).bind ret)) else ((s0 a0 false).bind ret)))
def transomref02_Class.s0c {β : Type} (g86 : G_transomref02_exponent) (g87 : G_transomref02_fraction) (s0 : S_transomref02_Class_0) (x0 : Int) (x1 : Bool) (ret : Int → Option β) : Option β := (bif x1 then (ret ((1 : Int))) else ((g86 x0).bind fun r0 => (bif (r0 == (2047 : Int)) then (ret ((2 : Int))) else ((g86 x0).bind fun r1 => (bif (r1 == (0 : Int)) then ((g87 x0).bind fun r2 => (bif (r2 == (0 : Int)) then (ret ((3 : Int))) else ((g86 x0).bind fun r3 => (bif (r3 == (0 : Int)) then (ret ((4 : Int))) else (ret ((5 : Int))))))) else ((g86 x0).bind fun r4 => (bif (r4 == (0 : Int)) then (ret ((4 : Int))) else (ret ((5 : Int))))))))))
theorem transomref02_Class.c_bind {β : Type} {g86 : G_transomref02_exponent} {g87 : G_transomref02_fraction} {s0 : S_transomref02_Class_0} {a0 : Int} {ret : Int → Option β} : transomref02_Class.c g86 g87 s0 a0 ret = (transomref02_Class.c g86 g87 s0 a0 some).bind ret := by
  simp only [transomref02_Class.c, bif_bind, sum_bind, Option.bind_assoc, Option.bind_some, Option.bind_none, Option.bind_fun_some]
theorem transomref02_Class.s0c_bind {β : Type} {g86 : G_transomref02_exponent} {g87 : G_transomref02_fraction} {s0 : S_transomref02_Class_0} {x0 : Int} {x1 : Bool} {ret : Int → Option β} : transomref02_Class.s0c g86 g87 s0 x0 x1 ret = (transomref02_Class.s0c g86 g87 s0 x0 x1 some).bind ret := by
  simp only [transomref02_Class.s0c, bif_bind, sum_bind, Option.bind_assoc, Option.bind_some, Option.bind_none, Option.bind_fun_some]
theorem transomref02_Class.ev {g86 : G_transomref02_exponent} {g87 : G_transomref02_fraction} {s0 : S_transomref02_Class_0} {a0 : Int} : evAt (env_transomref02_Class g86 g87 s0) [] [0] [.v (.one (.d (.int .u64) a0))] [] some = transomref02_Class.c g86 g87 s0 a0 (fun r => some ⟨.v (.one (.d (.int .i64) r)), []⟩) := by
  kernel_rfl
theorem transomref02_Class.s0_ev {g86 : G_transomref02_exponent} {g87 : G_transomref02_fraction} {s0 : S_transomref02_Class_0} {x0 : Int} {x1 : Bool} : evAt (env_transomref02_Class g86 g87 s0) [1, 4, 0, 1] [0, 3] [.v (.one (.d (.int .u64) x0)), .v (.one (.d .bool x1))] [] some = transomref02_Class.s0c g86 g87 s0 x0 x1 (fun r => some ⟨.v (.one (.d (.int .i64) r)), []⟩) := by
  kernel_rfl
def transomref02_Class.s0 : Nat → Int → Bool → Option Int
  | 0, _, _ => none
  | k + 1, x0, x1 => transomref02_Class.s0c (transomref02_exponent.f k) (transomref02_fraction.f k) (transomref02_Class.s0 k) x0 x1 some
def transomref02_Class.f (k : Nat) (a0 : Int) : Option Int := transomref02_Class.c (transomref02_exponent.f k) (transomref02_fraction.f k) (transomref02_Class.s0 k) a0 some
theorem transomref02_Class.is {g86 : G_transomref02_exponent} {g87 : G_transomref02_fraction} {s0 : S_transomref02_Class_0} : FnIs (env_transomref02_Class g86 g87 s0) 71 Go.Proofs.Tryd.f71 := ⟨Go.Proofs.Tryd.func71, rfl, rfl, rfl, by decide⟩
theorem transomref02_Class.envok {g86 : G_transomref02_exponent} {g87 : G_transomref02_fraction} {s0 : S_transomref02_Class_0} (h86 : CtOK Go.Proofs.Tryd.prog 86 (ct_transomref02_exponent g86)) (h87 : CtOK Go.Proofs.Tryd.prog 87 (ct_transomref02_fraction g87)) : EnvOK (env_transomref02_Class g86 g87 s0).toEnv := by
  intro f c h
  simp only [env_transomref02_Class] at h
  split at h
  · rename_i e; subst e; cases h; exact h86
  split at h
  · rename_i e; subst e; cases h; exact h87
  simp at h
noncomputable abbrev transomref02_Class.E (k : Nat) : FEnv := env_transomref02_Class (transomref02_exponent.f k) (transomref02_fraction.f k) (transomref02_Class.s0 k)
theorem transomref02_Class.hE (k : Nat) : EnvOK (transomref02_Class.E k).toEnv := transomref02_Class.envok (transomref02_exponent.ok k) (transomref02_fraction.ok k)
theorem transomref02_Class.segs_ok : ∀ k, ∀ s ∈ (transomref02_Class.E k).segs, SegOK (transomref02_Class.E k) Go.Proofs.Tryd.f71 s
  | 0 => by
    intro s hs
    simp only [transomref02_Class.E, env_transomref02_Class, List.mem_cons, List.not_mem_nil, or_false] at hs
    rcases hs with rfl
    · intro tvs blks res h; exfalso; simp only [seg_transomref02_Class_0] at h; split at h <;> simp [transomref02_Class.s0] at h
  | k + 1 => by
    intro s hs
    simp only [transomref02_Class.E, env_transomref02_Class, List.mem_cons, List.not_mem_nil, or_false] at hs
    rcases hs with rfl
    · refine seg_of_ev (E := transomref02_Class.E k) (transomref02_Class.hE k) ⟨transomref02_Class.is.rvs⟩ (transomref02_Class.segs_ok k) ?_
      intro tvs blks res h
      simp only [seg_transomref02_Class_0] at h
      split at h
      · exact (transomref02_Class.s0_ev.trans transomref02_Class.s0c_bind).trans h
      · simp at h
theorem transomref02_Class.ok (k : Nat) : CtOK Go.Proofs.Tryd.prog 71 (ct_transomref02_Class (transomref02_Class.f k)) := by
  refine ct_of_ev (E := transomref02_Class.E k) transomref02_Class.is (transomref02_Class.hE k) (transomref02_Class.segs_ok k) rfl ?_
  intro tvs blks res h
  simp only [ct_transomref02_Class] at h
  split at h
  · exact (transomref02_Class.ev.trans transomref02_Class.c_bind).trans h
  · simp at h

/-! ### transomref02_Canon: function 51 -/
abbrev G_transomref02_Canon : Type := Int → Option Int
def ct_transomref02_Canon (g : G_transomref02_Canon) : Ct where
  nin := 0
  mv := []
  F := fun tvs blks {β} K => match tvs, blks with
    | [.v (.one (.d (.int .u64) a0))], [] => (g a0).bind fun r => K ⟨.v (.one (.d (.int .u64) r)), []⟩
    | _, _ => none
  legit := fun tvs blks K r h => by
    split at h
    · obtain ⟨x, hx, hk⟩ := Option.bind_eq_some_iff.1 h
      refine ⟨_, ?_, hk⟩
      simp only [hx, Option.bind_some]
    · simp at h
noncomputable def env_transomref02_Canon (g71 : G_transomref02_Class)  : FEnv := { P := Go.Proofs.Tryd.prog, ct := fun m => if m = 71 then some (ct_transomref02_Class g71) else none, N := 7, body := Go.Proofs.Tryd.f51.body.getD .skip, rvs := [.tmp 2], rts := [29], nin := 0, rmv := [], segs := [] }
def transomref02_Canon.c {β : Type} (g71 : G_transomref02_Class)  (a0 : Int) (ret : Int → Option β) : Option β := ((g71 a0).bind fun r0 => (bif (r0 == (1 : Int)) then (ret ((9221120237041090560 : Int))) else (ret (a0))))
theorem transomref02_Canon.c_bind {β : Type} {g71 : G_transomref02_Class}  {a0 : Int} {ret : Int → Option β} : transomref02_Canon.c g71  a0 ret = (transomref02_Canon.c g71  a0 some).bind ret := by
  simp only [transomref02_Canon.c, bif_bind, sum_bind, Option.bind_assoc, Option.bind_some, Option.bind_none, Option.bind_fun_some]
theorem transomref02_Canon.ev {g71 : G_transomref02_Class}  {a0 : Int} : evAt (env_transomref02_Canon g71 ) [] [0] [.v (.one (.d (.int .u64) a0))] [] some = transomref02_Canon.c g71  a0 (fun r => some ⟨.v (.one (.d (.int .u64) r)), []⟩) := by
  kernel_rfl
def transomref02_Canon.f (k : Nat) (a0 : Int) : Option Int := transomref02_Canon.c (transomref02_Class.f k)  a0 some
theorem transomref02_Canon.is {g71 : G_transomref02_Class}  : FnIs (env_transomref02_Canon g71 ) 51 Go.Proofs.Tryd.f51 := ⟨Go.Proofs.Tryd.func51, rfl, rfl, rfl, by decide⟩
theorem transomref02_Canon.envok {g71 : G_transomref02_Class}  (h71 : CtOK Go.Proofs.Tryd.prog 71 (ct_transomref02_Class g71)) : EnvOK (env_transomref02_Canon g71 ).toEnv := by
  intro f c h
  simp only [env_transomref02_Canon] at h
  split at h
  · rename_i e; subst e; cases h; exact h71
  simp at h
noncomputable abbrev transomref02_Canon.E (k : Nat) : FEnv := env_transomref02_Canon (transomref02_Class.f k) 
theorem transomref02_Canon.hE (k : Nat) : EnvOK (transomref02_Canon.E k).toEnv := transomref02_Canon.envok (transomref02_Class.ok k)
theorem transomref02_Canon.ok (k : Nat) : CtOK Go.Proofs.Tryd.prog 51 (ct_transomref02_Canon (transomref02_Canon.f k)) := by
  refine ct_of_ev (E := transomref02_Canon.E k) transomref02_Canon.is (transomref02_Canon.hE k) (fun s hs => by simp [transomref02_Canon.E, env_transomref02_Canon] at hs) rfl ?_
  intro tvs blks res h
  simp only [ct_transomref02_Canon] at h
  split at h
  · exact (transomref02_Canon.ev.trans transomref02_Canon.c_bind).trans h
  · simp at h

/-! ### transomref01_lead: function 91 -/
abbrev G_transomref01_lead : Type := Int → Option (Int × Int)
def ct_transomref01_lead (g : G_transomref01_lead) : Ct where
  nin := 0
  mv := []
  F := fun tvs blks {β} K => match tvs, blks with
    | [.v (.one (.d (.int .i64) a0))], [] => (g a0).bind fun r => K ⟨.tup [(.one (.d (.int .i64) r.1)), (.one (.d (.int .i64) r.2))], []⟩
    | _, _ => none
  legit := fun tvs blks K r h => by
    split at h
    · obtain ⟨x, hx, hk⟩ := Option.bind_eq_some_iff.1 h
      refine ⟨_, ?_, hk⟩
      simp only [hx, Option.bind_some]
    · simp at h
abbrev S_transomref01_lead_0 : Type := Int → Bool → Option (Int × Int)
abbrev S_transomref01_lead_1 : Type := Int → Bool → Option (Int × Int)
def seg_transomref01_lead_0 (g : S_transomref01_lead_0) : Seg where
  path := [1, 3, 1, 4, 0, 1]
  prep := []
  keep := [0, 8]
  F := fun tvs blks {β} K => match tvs, blks with
    | [.v (.one (.d (.int .i64) x0)), .v (.one (.d .bool x1))], [] => (g x0 x1).bind fun r => K ⟨.tup [(.one (.d (.int .i64) r.1)), (.one (.d (.int .i64) r.2))], []⟩
    | _, _ => none
  legit := fun tvs blks K r h => by
    split at h
    · obtain ⟨x, hx, hk⟩ := Option.bind_eq_some_iff.1 h
      refine ⟨_, ?_, hk⟩
      simp only [hx, Option.bind_some]
    · simp at h
def seg_transomref01_lead_1 (g : S_transomref01_lead_1) : Seg where
  path := [1, 3, 1, 3, 1, 4, 0, 1]
  prep := []
  keep := [0, 17]
  F := fun tvs blks {β} K => match tvs, blks with
    | [.v (.one (.d (.int .i64) x0)), .v (.one (.d .bool x1))], [] => (g x0 x1).bind fun r => K ⟨.tup [(.one (.d (.int .i64) r.1)), (.one (.d (.int .i64) r.2))], []⟩
    | _, _ => none
  legit := fun tvs blks K r h => by
    split at h
    · obtain ⟨x, hx, hk⟩ := Option.bind_eq_some_iff.1 h
      refine ⟨_, ?_, hk⟩
      simp only [hx, Option.bind_some]
    · simp at h
noncomputable def env_transomref01_lead  (s0 : S_transomref01_lead_0) (s1 : S_transomref01_lead_1) : FEnv := { P := Go.Proofs.Tryd.prog, ct := fun m => none, N := 35, body := Go.Proofs.Tryd.f91.body.getD .skip, rvs := [.tmp 2, .tmp 3], rts := [3, 3], nin := 0, rmv := [], segs := [seg_transomref01_lead_0 s0, seg_transomref01_lead_1 s1] }
def transomref01_lead.c {β : Type}  (s0 : S_transomref01_lead_0) (s1 : S_transomref01_lead_1) (a0 : Int) (ret : (Int × Int) → Option β) : Option β := (bif (decide (a0 < (128 : Int))) then (ret ((1 : Int), a0)) else (bif (decide (a0 ≥ (192 : Int))) then ((s0 a0 (decide (a0 < (224 : Int)))).bind ret) else ((s0 a0 false).bind ret)))
def transomref01_lead.s0c {β : Type}  (s0 : S_transomref01_lead_0) (s1 : S_transomref01_lead_1) (x0 : Int) (x1 : Bool) (ret : (Int × Int) → Option β) : Option β := (bif x1 then (ret ((2 : Int), (IntKind.wrap IntKind.i64 (x0 - (192 : Int))))) else (bif (decide (x0 ≥ (224 : Int))) then ((s1 x0 (decide (x0 < (240 : Int)))).bind ret) else ((s1 x0 false).bind ret)))
def transomref01_lead.s1c {β : Type}  (s0 : S_transomref01_lead_0) (s1 : S_transomref01_lead_1) (x0 : Int) (x1 : Bool) (ret : (Int × Int) → Option β) : Option β := (bif x1 then (ret ((3 : Int), (IntKind.wrap IntKind.i64 (x0 - (224 : Int))))) else (bif (decide (x0 ≥ (240 : Int))) then (bif (decide (x0 < (248 : Int))) then (ret ((4 : Int), (IntKind.wrap IntKind.i64 (x0 - (240 : Int))))) else (ret ((0 : Int), (0 : Int)))) else (ret ((0 : Int), (0 : Int)))))
theorem transomref01_lead.c_bind {β : Type}  {s0 : S_transomref01_lead_0} {s1 : S_transomref01_lead_1} {a0 : Int} {ret : (Int × Int) → Option β} : transomref01_lead.c  s0 s1 a0 ret = (transomref01_lead.c  s0 s1 a0 some).bind ret := by
  simp only [transomref01_lead.c, bif_bind, sum_bind, Option.bind_assoc, Option.bind_some, Option.bind_none, Option.bind_fun_some]
theorem transomref01_lead.s0c_bind {β : Type}  {s0 : S_transomref01_lead_0} {s1 : S_transomref01_lead_1} {x0 : Int} {x1 : Bool} {ret : (Int × Int) → Option β} : transomref01_lead.s0c  s0 s1 x0 x1 ret = (transomref01_lead.s0c  s0 s1 x0 x1 some).bind ret := by
  simp only [transomref01_lead.s0c, bif_bind, sum_bind, Option.bind_assoc, Option.bind_some, Option.bind_none, Option.bind_fun_some]
theorem transomref01_lead.s1c_bind {β : Type}  {s0 : S_transomref01_lead_0} {s1 : S_transomref01_lead_1} {x0 : Int} {x1 : Bool} {ret : (Int × Int) → Option β} : transomref01_lead.s1c  s0 s1 x0 x1 ret = (transomref01_lead.s1c  s0 s1 x0 x1 some).bind ret := by
  simp only [transomref01_lead.s1c, bif_bind, sum_bind, Option.bind_assoc, Option.bind_some, Option.bind_none, Option.bind_fun_some]
theorem transomref01_lead.ev  {s0 : S_transomref01_lead_0} {s1 : S_transomref01_lead_1} {a0 : Int} : evAt (env_transomref01_lead  s0 s1) [] [0] [.v (.one (.d (.int .i64) a0))] [] some = transomref01_lead.c  s0 s1 a0 (fun r => some ⟨.tup [(.one (.d (.int .i64) r.1)), (.one (.d (.int .i64) r.2))], []⟩) := by
  kernel_rfl
theorem transomref01_lead.s0_ev  {s0 : S_transomref01_lead_0} {s1 : S_transomref01_lead_1} {x0 : Int} {x1 : Bool} : evAt (env_transomref01_lead  s0 s1) [1, 3, 1, 4, 0, 1] [0, 8] [.v (.one (.d (.int .i64) x0)), .v (.one (.d .bool x1))] [] some = transomref01_lead.s0c  s0 s1 x0 x1 (fun r => some ⟨.tup [(.one (.d (.int .i64) r.1)), (.one (.d (.int .i64) r.2))], []⟩) := by
  kernel_rfl
theorem transomref01_lead.s1_ev  {s0 : S_transomref01_lead_0} {s1 : S_transomref01_lead_1} {x0 : Int} {x1 : Bool} : evAt (env_transomref01_lead  s0 s1) [1, 3, 1, 3, 1, 4, 0, 1] [0, 17] [.v (.one (.d (.int .i64) x0)), .v (.one (.d .bool x1))] [] some = transomref01_lead.s1c  s0 s1 x0 x1 (fun r => some ⟨.tup [(.one (.d (.int .i64) r.1)), (.one (.d (.int .i64) r.2))], []⟩) := by
  kernel_rfl
mutual
def transomref01_lead.s0 : Nat → Int → Bool → Option (Int × Int)
  | 0, _, _ => none
  | k + 1, x0, x1 => transomref01_lead.s0c  (transomref01_lead.s0 k) (transomref01_lead.s1 k) x0 x1 some
def transomref01_lead.s1 : Nat → Int → Bool → Option (Int × Int)
  | 0, _, _ => none
  | k + 1, x0, x1 => transomref01_lead.s1c  (transomref01_lead.s0 k) (transomref01_lead.s1 k) x0 x1 some
end
def transomref01_lead.f (k : Nat) (a0 : Int) : Option (Int × Int) := transomref01_lead.c  (transomref01_lead.s0 k) (transomref01_lead.s1 k) a0 some
theorem transomref01_lead.is  {s0 : S_transomref01_lead_0} {s1 : S_transomref01_lead_1} : FnIs (env_transomref01_lead  s0 s1) 91 Go.Proofs.Tryd.f91 := ⟨Go.Proofs.Tryd.func91, rfl, rfl, rfl, by decide⟩
theorem transomref01_lead.envok  {s0 : S_transomref01_lead_0} {s1 : S_transomref01_lead_1}  : EnvOK (env_transomref01_lead  s0 s1).toEnv := by
  intro f c h
  simp only [env_transomref01_lead] at h
  simp at h
noncomputable abbrev transomref01_lead.E (k : Nat) : FEnv := env_transomref01_lead  (transomref01_lead.s0 k) (transomref01_lead.s1 k)
theorem transomref01_lead.hE (k : Nat) : EnvOK (transomref01_lead.E k).toEnv := transomref01_lead.envok 
theorem transomref01_lead.segs_ok : ∀ k, ∀ s ∈ (transomref01_lead.E k).segs, SegOK (transomref01_lead.E k) Go.Proofs.Tryd.f91 s
  | 0 => by
    intro s hs
    simp only [transomref01_lead.E, env_transomref01_lead, List.mem_cons, List.not_mem_nil, or_false] at hs
    rcases hs with rfl | rfl
    · intro tvs blks res h; exfalso; simp only [seg_transomref01_lead_0] at h; split at h <;> simp [transomref01_lead.s0] at h
    · intro tvs blks res h; exfalso; simp only [seg_transomref01_lead_1] at h; split at h <;> simp [transomref01_lead.s1] at h
  | k + 1 => by
    intro s hs
    simp only [transomref01_lead.E, env_transomref01_lead, List.mem_cons, List.not_mem_nil, or_false] at hs
    rcases hs with rfl | rfl
    · refine seg_of_ev (E := transomref01_lead.E k) (transomref01_lead.hE k) ⟨transomref01_lead.is.rvs⟩ (transomref01_lead.segs_ok k) ?_
      intro tvs blks res h
      simp only [seg_transomref01_lead_0] at h
      split at h
      · exact (transomref01_lead.s0_ev.trans transomref01_lead.s0c_bind).trans h
      · simp at h
    · refine seg_of_ev (E := transomref01_lead.E k) (transomref01_lead.hE k) ⟨transomref01_lead.is.rvs⟩ (transomref01_lead.segs_ok k) ?_
      intro tvs blks res h
      simp only [seg_transomref01_lead_1] at h
      split at h
      · exact (transomref01_lead.s1_ev.trans transomref01_lead.s1c_bind).trans h
      · simp at h
theorem transomref01_lead.ok (k : Nat) : CtOK Go.Proofs.Tryd.prog 91 (ct_transomref01_lead (transomref01_lead.f k)) := by
  refine ct_of_ev (E := transomref01_lead.E k) transomref01_lead.is (transomref01_lead.hE k) (transomref01_lead.segs_ok k) rfl ?_
  intro tvs blks res h
  simp only [ct_transomref01_lead] at h
  split at h
  · exact (transomref01_lead.ev.trans transomref01_lead.c_bind).trans h
  · simp at h

/-! ### transomref01_among: function 92 -/
abbrev G_transomref01_among : Type := Int → Int → Int → Option Bool
def ct_transomref01_among (g : G_transomref01_among) : Ct where
  nin := 0
  mv := []
  F := fun tvs blks {β} K => match tvs, blks with
    | [.v (.one (.d (.int .i64) a0)), .v (.one (.d (.int .i64) a1)), .v (.one (.d (.int .i64) a2))], [] => (g a0 a1 a2).bind fun r => K ⟨.v (.one (.d .bool r)), []⟩
    | _, _ => none
  legit := fun tvs blks K r h => by
    split at h
    · obtain ⟨x, hx, hk⟩ := Option.bind_eq_some_iff.1 h
      refine ⟨_, ?_, hk⟩
      simp only [hx, Option.bind_some]
    · simp at h
abbrev S_transomref01_among_0 : Type := Int → Int → Int → Int → Int → Option Bool
abbrev S_transomref01_among_1 : Type := Int → Int → Int → Int → Int → Option Bool
abbrev S_transomref01_among_2 : Type := Int → Int → Int → Int → Option Bool
def seg_transomref01_among_0 (g : S_transomref01_among_0) : Seg where
  path := [1, 1, 1]
  prep := []
  keep := [0, 1, 2, 7, 8]
  F := fun tvs blks {β} K => match tvs, blks with
    | [.v (.one (.d (.int .i64) x0)), .v (.one (.d (.int .i64) x1)), .v (.one (.d (.int .i64) x2)), .v (.one (.d (.int .i64) x3)), .v (.one (.d (.int .i64) x4))], [] => (g x0 x1 x2 x3 x4).bind fun r => K ⟨.v (.one (.d .bool r)), []⟩
    | _, _ => none
  legit := fun tvs blks K r h => by
    split at h
    · obtain ⟨x, hx, hk⟩ := Option.bind_eq_some_iff.1 h
      refine ⟨_, ?_, hk⟩
      simp only [hx, Option.bind_some]
    · simp at h
def seg_transomref01_among_1 (g : S_transomref01_among_1) : Seg where
  path := [1, 1, 1, 1]
  prep := []
  keep := [0, 1, 2, 7, 8]
  F := fun tvs blks {β} K => match tvs, blks with
    | [.v (.one (.d (.int .i64) x0)), .v (.one (.d (.int .i64) x1)), .v (.one (.d (.int .i64) x2)), .v (.one (.d (.int .i64) x3)), .v (.one (.d (.int .i64) x4))], [] => (g x0 x1 x2 x3 x4).bind fun r => K ⟨.v (.one (.d .bool r)), []⟩
    | _, _ => none
  legit := fun tvs blks K r h => by
    split at h
    · obtain ⟨x, hx, hk⟩ := Option.bind_eq_some_iff.1 h
      refine ⟨_, ?_, hk⟩
      simp only [hx, Option.bind_some]
    · simp at h
def seg_transomref01_among_2 (g : S_transomref01_among_2) : Seg where
  path := [1, 1, 1, 1, 1]
  prep := []
  keep := [0, 1, 7, 8]
  F := fun tvs blks {β} K => match tvs, blks with
    | [.v (.one (.d (.int .i64) x0)), .v (.one (.d (.int .i64) x1)), .v (.one (.d (.int .i64) x2)), .v (.one (.d (.int .i64) x3))], [] => (g x0 x1 x2 x3).bind fun r => K ⟨.v (.one (.d .bool r)), []⟩
    | _, _ => none
  legit := fun tvs blks K r h => by
    split at h
    · obtain ⟨x, hx, hk⟩ := Option.bind_eq_some_iff.1 h
      refine ⟨_, ?_, hk⟩
      simp only [hx, Option.bind_some]
    · simp at h
noncomputable def env_transomref01_among  (s0 : S_transomref01_among_0) (s1 : S_transomref01_among_1) (s2 : S_transomref01_among_2) : FEnv := { P := Go.Proofs.Tryd.prog, ct := fun m => none, N := 30, body := Go.Proofs.Tryd.f92.body.getD .skip, rvs := [.tmp 6], rts := [4], nin := 0, rmv := [], segs := [seg_transomref01_among_0 s0, seg_transomref01_among_1 s1, seg_transomref01_among_2 s2] }
def transomref01_among.c {β : Type}  (s0 : S_transomref01_among_0) (s1 : S_transomref01_among_1) (s2 : S_transomref01_among_2) (a0 : Int) (a1 : Int) (a2 : Int) (ret : Bool → Option β) : Option β := (bif (a2 == (2 : Int)) then ((s0 a0 a1 a2 (128 : Int) (2047 : Int)).bind ret) else ((s0 a0 a1 a2 (0 : Int) (127 : Int)).bind ret))
def transomref01_among.s0c {β : Type}  (s0 : S_transomref01_among_0) (s1 : S_transomref01_among_1) (s2 : S_transomref01_among_2) (x0 : Int) (x1 : Int) (x2 : Int) (x3 : Int) (x4 : Int) (ret : Bool → Option β) : Option β := (bif (x2 == (3 : Int)) then ((s1 x0 x1 x2 (2048 : Int) (65535 : Int)).bind ret) else ((s1 x0 x1 x2 x3 x4).bind ret))
def transomref01_among.s1c {β : Type}  (s0 : S_transomref01_among_0) (s1 : S_transomref01_among_1) (s2 : S_transomref01_among_2) (x0 : Int) (x1 : Int) (x2 : Int) (x3 : Int) (x4 : Int) (ret : Bool → Option β) : Option β := (bif (x2 == (4 : Int)) then ((s2 x0 x1 (65536 : Int) (1114111 : Int)).bind ret) else ((s2 x0 x1 x3 x4).bind ret))
def transomref01_among.s2c {β : Type}  (s0 : S_transomref01_among_0) (s1 : S_transomref01_among_1) (s2 : S_transomref01_among_2) (x0 : Int) (x1 : Int) (x2 : Int) (x3 : Int) (ret : Bool → Option β) : Option β := (bif (decide ((if (x2 > x0) then x2 else x0) > (if (x3 < x1) then x3 else x1))) then (ret (false)) else (bif (decide ((if (x2 > x0) then x2 else x0) < (55296 : Int))) then (ret (true)) else (ret ((decide ((if (x3 < x1) then x3 else x1) > (57343 : Int)))))))
theorem transomref01_among.c_bind {β : Type}  {s0 : S_transomref01_among_0} {s1 : S_transomref01_among_1} {s2 : S_transomref01_among_2} {a0 : Int} {a1 : Int} {a2 : Int} {ret : Bool → Option β} : transomref01_among.c  s0 s1 s2 a0 a1 a2 ret = (transomref01_among.c  s0 s1 s2 a0 a1 a2 some).bind ret := by
  simp only [transomref01_among.c, bif_bind, sum_bind, Option.bind_assoc, Option.bind_some, Option.bind_none, Option.bind_fun_some]
theorem transomref01_among.s0c_bind {β : Type}  {s0 : S_transomref01_among_0} {s1 : S_transomref01_among_1} {s2 : S_transomref01_among_2} {x0 : Int} {x1 : Int} {x2 : Int} {x3 : Int} {x4 : Int} {ret : Bool → Option β} : transomref01_among.s0c  s0 s1 s2 x0 x1 x2 x3 x4 ret = (transomref01_among.s0c  s0 s1 s2 x0 x1 x2 x3 x4 some).bind ret := by
  simp only [transomref01_among.s0c, bif_bind, sum_bind, Option.bind_assoc, Option.bind_some, Option.bind_none, Option.bind_fun_some]
theorem transomref01_among.s1c_bind {β : Type}  {s0 : S_transomref01_among_0} {s1 : S_transomref01_among_1} {s2 : S_transomref01_among_2} {x0 : Int} {x1 : Int} {x2 : Int} {x3 : Int} {x4 : Int} {ret : Bool → Option β} : transomref01_among.s1c  s0 s1 s2 x0 x1 x2 x3 x4 ret = (transomref01_among.s1c  s0 s1 s2 x0 x1 x2 x3 x4 some).bind ret := by
  simp only [transomref01_among.s1c, bif_bind, sum_bind, Option.bind_assoc, Option.bind_some, Option.bind_none, Option.bind_fun_some]
theorem transomref01_among.s2c_bind {β : Type}  {s0 : S_transomref01_among_0} {s1 : S_transomref01_among_1} {s2 : S_transomref01_among_2} {x0 : Int} {x1 : Int} {x2 : Int} {x3 : Int} {ret : Bool → Option β} : transomref01_among.s2c  s0 s1 s2 x0 x1 x2 x3 ret = (transomref01_among.s2c  s0 s1 s2 x0 x1 x2 x3 some).bind ret := by
  simp only [transomref01_among.s2c, bif_bind, sum_bind, Option.bind_assoc, Option.bind_some, Option.bind_none, Option.bind_fun_some]
theorem transomref01_among.ev  {s0 : S_transomref01_among_0} {s1 : S_transomref01_among_1} {s2 : S_transomref01_among_2} {a0 : Int} {a1 : Int} {a2 : Int} : evAt (env_transomref01_among  s0 s1 s2) [] [0, 1, 2] [.v (.one (.d (.int .i64) a0)), .v (.one (.d (.int .i64) a1)), .v (.one (.d (.int .i64) a2))] [] some = transomref01_among.c  s0 s1 s2 a0 a1 a2 (fun r => some ⟨.v (.one (.d .bool r)), []⟩) := by
  kernel_rfl
theorem transomref01_among.s0_ev  {s0 : S_transomref01_among_0} {s1 : S_transomref01_among_1} {s2 : S_transomref01_among_2} {x0 : Int} {x1 : Int} {x2 : Int} {x3 : Int} {x4 : Int} : evAt (env_transomref01_among  s0 s1 s2) [1, 1, 1] [0, 1, 2, 7, 8] [.v (.one (.d (.int .i64) x0)), .v (.one (.d (.int .i64) x1)), .v (.one (.d (.int .i64) x2)), .v (.one (.d (.int .i64) x3)), .v (.one (.d (.int .i64) x4))] [] some = transomref01_among.s0c  s0 s1 s2 x0 x1 x2 x3 x4 (fun r => some ⟨.v (.one (.d .bool r)), []⟩) := by
  kernel_rfl
theorem transomref01_among.s1_ev  {s0 : S_transomref01_among_0} {s1 : S_transomref01_among_1} {s2 : S_transomref01_among_2} {x0 : Int} {x1 : Int} {x2 : Int} {x3 : Int} {x4 : Int} : evAt (env_transomref01_among  s0 s1 s2) [1, 1, 1, 1] [0, 1, 2, 7, 8] [.v (.one (.d (.int .i64) x0)), .v (.one (.d (.int .i64) x1)), .v (.one (.d (.int .i64) x2)), .v (.one (.d (.int .i64) x3)), .v (.one (.d (.int .i64) x4))] [] some = transomref01_among.s1c  s0 s1 s2 x0 x1 x2 x3 x4 (fun r => some ⟨.v (.one (.d .bool r)), []⟩) := by
  kernel_rfl
theorem transomref01_among.s2_ev  {s0 : S_transomref01_among_0} {s1 : S_transomref01_among_1} {s2 : S_transomref01_among_2} {x0 : Int} {x1 : Int} {x2 : Int} {x3 : Int} : evAt (env_transomref01_among  s0 s1 s2) [1, 1, 1, 1, 1] [0, 1, 7, 8] [.v (.one (.d (.int .i64) x0)), .v (.one (.d (.int .i64) x1)), .v (.one (.d (.int .i64) x2)), .v (.one (.d (.int .i64) x3))] [] some = transomref01_among.s2c  s0 s1 s2 x0 x1 x2 x3 (fun r => some ⟨.v (.one (.d .bool r)), []⟩) := by
  kernel_rfl
mutual
def transomref01_among.s0 : Nat → Int → Int → Int → Int → Int → Option Bool
  | 0, _, _, _, _, _ => none
  | k + 1, x0, x1, x2, x3, x4 => transomref01_among.s0c  (transomref01_among.s0 k) (transomref01_among.s1 k) (transomref01_among.s2 k) x0 x1 x2 x3 x4 some
def transomref01_among.s1 : Nat → Int → Int → Int → Int → Int → Option Bool
  | 0, _, _, _, _, _ => none
  | k + 1, x0, x1, x2, x3, x4 => transomref01_among.s1c  (transomref01_among.s0 k) (transomref01_among.s1 k) (transomref01_among.s2 k) x0 x1 x2 x3 x4 some
def transomref01_among.s2 : Nat → Int → Int → Int → Int → Option Bool
  | 0, _, _, _, _ => none
  | k + 1, x0, x1, x2, x3 => transomref01_among.s2c  (transomref01_among.s0 k) (transomref01_among.s1 k) (transomref01_among.s2 k) x0 x1 x2 x3 some
end
def transomref01_among.f (k : Nat) (a0 : Int) (a1 : Int) (a2 : Int) : Option Bool := transomref01_among.c  (transomref01_among.s0 k) (transomref01_among.s1 k) (transomref01_among.s2 k) a0 a1 a2 some
theorem transomref01_among.is  {s0 : S_transomref01_among_0} {s1 : S_transomref01_among_1} {s2 : S_transomref01_among_2} : FnIs (env_transomref01_among  s0 s1 s2) 92 Go.Proofs.Tryd.f92 := ⟨Go.Proofs.Tryd.func92, rfl, rfl, rfl, by decide⟩
theorem transomref01_among.envok  {s0 : S_transomref01_among_0} {s1 : S_transomref01_among_1} {s2 : S_transomref01_among_2}  : EnvOK (env_transomref01_among  s0 s1 s2).toEnv := by
  intro f c h
  simp only [env_transomref01_among] at h
  simp at h
noncomputable abbrev transomref01_among.E (k : Nat) : FEnv := env_transomref01_among  (transomref01_among.s0 k) (transomref01_among.s1 k) (transomref01_among.s2 k)
theorem transomref01_among.hE (k : Nat) : EnvOK (transomref01_among.E k).toEnv := transomref01_among.envok 
theorem transomref01_among.segs_ok : ∀ k, ∀ s ∈ (transomref01_among.E k).segs, SegOK (transomref01_among.E k) Go.Proofs.Tryd.f92 s
  | 0 => by
    intro s hs
    simp only [transomref01_among.E, env_transomref01_among, List.mem_cons, List.not_mem_nil, or_false] at hs
    rcases hs with rfl | rfl | rfl
    · intro tvs blks res h; exfalso; simp only [seg_transomref01_among_0] at h; split at h <;> simp [transomref01_among.s0] at h
    · intro tvs blks res h; exfalso; simp only [seg_transomref01_among_1] at h; split at h <;> simp [transomref01_among.s1] at h
    · intro tvs blks res h; exfalso; simp only [seg_transomref01_among_2] at h; split at h <;> simp [transomref01_among.s2] at h
  | k + 1 => by
    intro s hs
    simp only [transomref01_among.E, env_transomref01_among, List.mem_cons, List.not_mem_nil, or_false] at hs
    rcases hs with rfl | rfl | rfl
    · refine seg_of_ev (E := transomref01_among.E k) (transomref01_among.hE k) ⟨transomref01_among.is.rvs⟩ (transomref01_among.segs_ok k) ?_
      intro tvs blks res h
      simp only [seg_transomref01_among_0] at h
      split at h
      · exact (transomref01_among.s0_ev.trans transomref01_among.s0c_bind).trans h
      · simp at h
    · refine seg_of_ev (E := transomref01_among.E k) (transomref01_among.hE k) ⟨transomref01_among.is.rvs⟩ (transomref01_among.segs_ok k) ?_
      intro tvs blks res h
      simp only [seg_transomref01_among_1] at h
      split at h
      · exact (transomref01_among.s1_ev.trans transomref01_among.s1c_bind).trans h
      · simp at h
    · refine seg_of_ev (E := transomref01_among.E k) (transomref01_among.hE k) ⟨transomref01_among.is.rvs⟩ (transomref01_among.segs_ok k) ?_
      intro tvs blks res h
      simp only [seg_transomref01_among_2] at h
      split at h
      · exact (transomref01_among.s2_ev.trans transomref01_among.s2c_bind).trans h
      · simp at h
theorem transomref01_among.ok (k : Nat) : CtOK Go.Proofs.Tryd.prog 92 (ct_transomref01_among (transomref01_among.f k)) := by
  refine ct_of_ev (E := transomref01_among.E k) transomref01_among.is (transomref01_among.hE k) (transomref01_among.segs_ok k) rfl ?_
  intro tvs blks res h
  simp only [ct_transomref01_among] at h
  split at h
  · exact (transomref01_among.ev.trans transomref01_among.c_bind).trans h
  · simp at h
end Go.Proofs.YtddlebbjaadbeaaDoor.Aev
