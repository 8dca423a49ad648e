/- By a program of this session (AEV): functions of the program as plain functions, and that the machine does what they say. -/
import Derived.Test.YtdbbkmmillnaiaaGreatDoorTys
import Derived.Test.YtdbbkmmillnaiaaGreatDoorProg
import Derived.Laws.Externs
import Derived.Lib.Bytealg
import Derived.Test.YtdbbkmmillnaiaaGreatDoorF9
namespace Go.Proofs.YtdbbkmmillnaiaaGreatDoor.Aev
set_option linter.unusedVariables false
set_option linter.unusedSimpArgs false
set_option maxRecDepth 100000
set_option maxHeartbeats 4000000
open Go Go.Proofs.Tryz
namespace transomref02_fraction
abbrev G : Type := Int → Option Int
def ct (g : G) : Ct where
  nin := 0
  mv := []
  F := fun tvs blks {β} K => match tvs, blks with
    | [.v (.one (.d (.int .u64) a0))], [] => (g a0).bind fun r => K ⟨.v (.one (.d (.int .u64) r)), []⟩
    | _, _ => none
  legit := fun _ _ K _ h => by split at h; exact (legit1 K h :); simp at h
noncomputable def env   : FEnv := { P := prog, ct := fun m => none, N := 5, body := f94.body.getD .skip, rvs := [.tmp 2], rts := [47], nin := 0, rmv := [], segs := [] }
def c {β : Type}   (a0 : Int) (ret : Int → Option β) : Option β := (ret ((IntKind.wrap IntKind.u64 ((BitVec.toNat ((BitVec.ofInt (64 : Nat) a0) &&& (BitVec.ofInt (64 : Nat) (4503599627370495 : Int)))) : Int))))
theorem c_bind {β : Type}   {a0 : Int} {ret : Int → Option β} : c   a0 ret = (c   a0 some).bind ret := by
  simp only [c, bif_bind, sum_bind, oa, os, on, ofs]
theorem ev   {a0 : Int} : evAt (env  ) [] [0] [.v (.one (.d (.int .u64) a0))] [] some = c   a0 (fun r => some ⟨.v (.one (.d (.int .u64) r)), []⟩) := by
  kernel_rfl
def f (k : Nat) (a0 : Int) : Option Int := c   a0 some
theorem is   : FnIs (env  ) 94 f94 := ⟨func94, rfl, rfl, rfl, by decide⟩
theorem envok    : EnvOK (env  ).toEnv := by
  intro f c h
  simp only [env] at h
  simp at h
noncomputable abbrev E (k : Nat) : FEnv := env  
theorem hE (k : Nat) : EnvOK (E k).toEnv := envok 
theorem ok (k : Nat) : CtOK prog 94 (ct (f k)) := by
  refine ct_of_ev (E := E k) is (hE k) (fun s hs => by simp [E, env] at hs) rfl ?_
  intro tvs blks res h
  simp only [ct] at h
  split at h
  · exact (ev.trans c_bind).trans h
  · simp at h
end transomref02_fraction
namespace transomref02_Class
abbrev G : Type := Int → Option Int
def ct (g : G) : Ct where
  nin := 0
  mv := []
  F := fun tvs blks {β} K => match tvs, blks with
    | [.v (.one (.d (.int .u64) a0))], [] => (g a0).bind fun r => K ⟨.v (.one (.d (.int .i64) r)), []⟩
    | _, _ => none
  legit := fun _ _ K _ h => by split at h; exact (legit1 K h :); simp at h
abbrev S0 : Type := Int → Bool → Option Int
def sg0 (g : S0) : Seg where
  path := [1, 4, 0, 1]
  prep := []
  keep := [0, 3]
  F := fun tvs blks {β} K => match tvs, blks with
    | [.v (.one (.d (.int .u64) x0)), .v (.one (.d .bool x1))], [] => (g x0 x1).bind fun r => K ⟨.v (.one (.d (.int .i64) r)), []⟩
    | _, _ => none
  legit := fun _ _ K _ h => by split at h; exact (legit1 K h :); simp at h
noncomputable def env (g93 : transomref02_exponent.G) (g94 : transomref02_fraction.G) (s0 : S0) : FEnv := { P := prog, ct := fun m => if m = 93 then some (transomref02_exponent.ct g93) else if m = 94 then some (transomref02_fraction.ct g94) else none, N := 29, body := f90.body.getD .skip, rvs := [.tmp 2], rts := [3], nin := 0, rmv := [], segs := [sg0 s0] }
def c {β : Type} (g93 : transomref02_exponent.G) (g94 : transomref02_fraction.G) (s0 : S0) (a0 : Int) (ret : Int → Option β) : Option β := ((g93 a0).bind fun r0 => (bif (r0 == (2047 : Int)) then ((g94 a0).bind fun r1 => ((s0 a0 (r1 != (0 : Int))).bind ret)) else ((s0 a0 false).bind ret)))
def s0c {β : Type} (g93 : transomref02_exponent.G) (g94 : transomref02_fraction.G) (s0 : S0) (x0 : Int) (x1 : Bool) (ret : Int → Option β) : Option β := (bif x1 then (ret ((1 : Int))) else ((g93 x0).bind fun r0 => (bif (r0 == (2047 : Int)) then (ret ((2 : Int))) else ((g93 x0).bind fun r1 => (bif (r1 == (0 : Int)) then ((g94 x0).bind fun r2 => (bif (r2 == (0 : Int)) then (ret ((3 : Int))) else ((g93 x0).bind fun r3 => (bif (r3 == (0 : Int)) then (ret ((4 : Int))) else (ret ((5 : Int))))))) else ((g93 x0).bind fun r4 => (bif (r4 == (0 : Int)) then (ret ((4 : Int))) else (ret ((5 : Int))))))))))
theorem c_bind {β : Type} {g93 : transomref02_exponent.G} {g94 : transomref02_fraction.G} {s0 : S0} {a0 : Int} {ret : Int → Option β} : c g93 g94 s0 a0 ret = (c g93 g94 s0 a0 some).bind ret := by
  simp only [c, bif_bind, sum_bind, oa, os, on, ofs]
theorem s0c_bind {β : Type} {g93 : transomref02_exponent.G} {g94 : transomref02_fraction.G} {s0 : S0} {x0 : Int} {x1 : Bool} {ret : Int → Option β} : s0c g93 g94 s0 x0 x1 ret = (s0c g93 g94 s0 x0 x1 some).bind ret := by
  simp only [s0c, bif_bind, sum_bind, oa, os, on, ofs]
theorem ev {g93 : transomref02_exponent.G} {g94 : transomref02_fraction.G} {s0 : S0} {a0 : Int} : evAt (env g93 g94 s0) [] [0] [.v (.one (.d (.int .u64) a0))] [] some = c g93 g94 s0 a0 (fun r => some ⟨.v (.one (.d (.int .i64) r)), []⟩) := by
  kernel_rfl
theorem s0_ev {g93 : transomref02_exponent.G} {g94 : transomref02_fraction.G} {s0 : S0} {x0 : Int} {x1 : Bool} : evAt (env g93 g94 s0) [1, 4, 0, 1] [0, 3] [.v (.one (.d (.int .u64) x0)), .v (.one (.d .bool x1))] [] some = s0c g93 g94 s0 x0 x1 (fun r => some ⟨.v (.one (.d (.int .i64) r)), []⟩) := by
  kernel_rfl
def s0 : Nat → Int → Bool → Option Int
  | 0, _, _ => none
  | k + 1, x0, x1 => s0c (transomref02_exponent.f k) (transomref02_fraction.f k) (s0 k) x0 x1 some
def f (k : Nat) (a0 : Int) : Option Int := c (transomref02_exponent.f k) (transomref02_fraction.f k) (s0 k) a0 some
theorem is {g93 : transomref02_exponent.G} {g94 : transomref02_fraction.G} {s0 : S0} : FnIs (env g93 g94 s0) 90 f90 := ⟨func90, rfl, rfl, rfl, by decide⟩
theorem envok {g93 : transomref02_exponent.G} {g94 : transomref02_fraction.G} {s0 : S0} (h93 : CtOK prog 93 (transomref02_exponent.ct g93)) (h94 : CtOK prog 94 (transomref02_fraction.ct g94)) : EnvOK (env g93 g94 s0).toEnv := by
  intro f c h
  simp only [env] at h
  split at h
  · rename_i e; subst e; cases h; exact h93
  split at h
  · rename_i e; subst e; cases h; exact h94
  simp at h
noncomputable abbrev E (k : Nat) : FEnv := env (transomref02_exponent.f k) (transomref02_fraction.f k) (s0 k)
theorem hE (k : Nat) : EnvOK (E k).toEnv := envok (transomref02_exponent.ok k) (transomref02_fraction.ok k)
theorem segs_ok : ∀ k, ∀ s ∈ (E k).segs, SegOK (E k) f90 s
  | 0 => by
    intro s hs
    simp only [E, env, List.mem_cons, List.not_mem_nil, or_false] at hs
    rcases hs with rfl
    · intro tvs blks res h; exfalso; simp only [sg0] at h; split at h <;> simp [s0] at h
  | k + 1 => by
    intro s hs
    simp only [E, env, List.mem_cons, List.not_mem_nil, or_false] at hs
    rcases hs with rfl
    · refine seg_of_ev (E := E k) (hE k) ⟨is.rvs⟩ (segs_ok k) ?_
      intro tvs blks res h
      simp only [sg0] at h
      split at h
      · exact (s0_ev.trans s0c_bind).trans h
      · simp at h
theorem ok (k : Nat) : CtOK prog 90 (ct (f k)) := by
  refine ct_of_ev (E := E k) is (hE k) (segs_ok k) rfl ?_
  intro tvs blks res h
  simp only [ct] at h
  split at h
  · exact (ev.trans c_bind).trans h
  · simp at h
end transomref02_Class
namespace transomref02_Canon
abbrev G : Type := Int → Option Int
def ct (g : G) : Ct where
  nin := 0
  mv := []
  F := fun tvs blks {β} K => match tvs, blks with
    | [.v (.one (.d (.int .u64) a0))], [] => (g a0).bind fun r => K ⟨.v (.one (.d (.int .u64) r)), []⟩
    | _, _ => none
  legit := fun _ _ K _ h => by split at h; exact (legit1 K h :); simp at h
noncomputable def env (g90 : transomref02_Class.G)  : FEnv := { P := prog, ct := fun m => if m = 90 then some (transomref02_Class.ct g90) else none, N := 7, body := f84.body.getD .skip, rvs := [.tmp 2], rts := [47], nin := 0, rmv := [], segs := [] }
def c {β : Type} (g90 : transomref02_Class.G)  (a0 : Int) (ret : Int → Option β) : Option β := ((g90 a0).bind fun r0 => (bif (r0 == (1 : Int)) then (ret ((9221120237041090560 : Int))) else (ret (a0))))
theorem c_bind {β : Type} {g90 : transomref02_Class.G}  {a0 : Int} {ret : Int → Option β} : c g90  a0 ret = (c g90  a0 some).bind ret := by
  simp only [c, bif_bind, sum_bind, oa, os, on, ofs]
theorem ev {g90 : transomref02_Class.G}  {a0 : Int} : evAt (env g90 ) [] [0] [.v (.one (.d (.int .u64) a0))] [] some = c g90  a0 (fun r => some ⟨.v (.one (.d (.int .u64) r)), []⟩) := by
  kernel_rfl
def f (k : Nat) (a0 : Int) : Option Int := c (transomref02_Class.f k)  a0 some
theorem is {g90 : transomref02_Class.G}  : FnIs (env g90 ) 84 f84 := ⟨func84, rfl, rfl, rfl, by decide⟩
theorem envok {g90 : transomref02_Class.G}  (h90 : CtOK prog 90 (transomref02_Class.ct g90)) : EnvOK (env g90 ).toEnv := by
  intro f c h
  simp only [env] at h
  split at h
  · rename_i e; subst e; cases h; exact h90
  simp at h
noncomputable abbrev E (k : Nat) : FEnv := env (transomref02_Class.f k) 
theorem hE (k : Nat) : EnvOK (E k).toEnv := envok (transomref02_Class.ok k)
theorem ok (k : Nat) : CtOK prog 84 (ct (f k)) := by
  refine ct_of_ev (E := E k) is (hE k) (fun s hs => by simp [E, env] at hs) rfl ?_
  intro tvs blks res h
  simp only [ct] at h
  split at h
  · exact (ev.trans c_bind).trans h
  · simp at h
end transomref02_Canon
namespace transomref01_lead
abbrev G : Type := Int → Option (Int × Int)
def ct (g : G) : Ct where
  nin := 0
  mv := []
  F := fun tvs blks {β} K => match tvs, blks with
    | [.v (.one (.d (.int .i64) a0))], [] => (g a0).bind fun r => K ⟨.tup [(.one (.d (.int .i64) r.1)), (.one (.d (.int .i64) r.2))], []⟩
    | _, _ => none
  legit := fun _ _ K _ h => by split at h; exact (legit1 K h :); simp at h
abbrev S0 : Type := Int → Bool → Option (Int × Int)
abbrev S1 : Type := Int → Bool → Option (Int × Int)
def sg0 (g : S0) : Seg where
  path := [1, 3, 1, 4, 0, 1]
  prep := []
  keep := [0, 8]
  F := fun tvs blks {β} K => match tvs, blks with
    | [.v (.one (.d (.int .i64) x0)), .v (.one (.d .bool x1))], [] => (g x0 x1).bind fun r => K ⟨.tup [(.one (.d (.int .i64) r.1)), (.one (.d (.int .i64) r.2))], []⟩
    | _, _ => none
  legit := fun _ _ K _ h => by split at h; exact (legit1 K h :); simp at h
def sg1 (g : S1) : Seg where
  path := [1, 3, 1, 3, 1, 4, 0, 1]
  prep := []
  keep := [0, 17]
  F := fun tvs blks {β} K => match tvs, blks with
    | [.v (.one (.d (.int .i64) x0)), .v (.one (.d .bool x1))], [] => (g x0 x1).bind fun r => K ⟨.tup [(.one (.d (.int .i64) r.1)), (.one (.d (.int .i64) r.2))], []⟩
    | _, _ => none
  legit := fun _ _ K _ h => by split at h; exact (legit1 K h :); simp at h
noncomputable def env  (s0 : S0) (s1 : S1) : FEnv := { P := prog, ct := fun m => none, N := 35, body := f96.body.getD .skip, rvs := [.tmp 2, .tmp 3], rts := [3, 3], nin := 0, rmv := [], segs := [sg0 s0, sg1 s1] }
def c {β : Type}  (s0 : S0) (s1 : S1) (a0 : Int) (ret : (Int × Int) → Option β) : Option β := (bif (decide (a0 < (128 : Int))) then (ret ((1 : Int), a0)) else (bif (decide (a0 ≥ (192 : Int))) then ((s0 a0 (decide (a0 < (224 : Int)))).bind ret) else ((s0 a0 false).bind ret)))
def s0c {β : Type}  (s0 : S0) (s1 : S1) (x0 : Int) (x1 : Bool) (ret : (Int × Int) → Option β) : Option β := (bif x1 then (ret ((2 : Int), (IntKind.wrap IntKind.i64 (x0 - (192 : Int))))) else (bif (decide (x0 ≥ (224 : Int))) then ((s1 x0 (decide (x0 < (240 : Int)))).bind ret) else ((s1 x0 false).bind ret)))
def s1c {β : Type}  (s0 : S0) (s1 : S1) (x0 : Int) (x1 : Bool) (ret : (Int × Int) → Option β) : Option β := (bif x1 then (ret ((3 : Int), (IntKind.wrap IntKind.i64 (x0 - (224 : Int))))) else (bif (decide (x0 ≥ (240 : Int))) then (bif (decide (x0 < (248 : Int))) then (ret ((4 : Int), (IntKind.wrap IntKind.i64 (x0 - (240 : Int))))) else (ret ((0 : Int), (0 : Int)))) else (ret ((0 : Int), (0 : Int)))))
theorem c_bind {β : Type}  {s0 : S0} {s1 : S1} {a0 : Int} {ret : (Int × Int) → Option β} : c  s0 s1 a0 ret = (c  s0 s1 a0 some).bind ret := by
  simp only [c, bif_bind, sum_bind, oa, os, on, ofs]
theorem s0c_bind {β : Type}  {s0 : S0} {s1 : S1} {x0 : Int} {x1 : Bool} {ret : (Int × Int) → Option β} : s0c  s0 s1 x0 x1 ret = (s0c  s0 s1 x0 x1 some).bind ret := by
  simp only [s0c, bif_bind, sum_bind, oa, os, on, ofs]
theorem s1c_bind {β : Type}  {s0 : S0} {s1 : S1} {x0 : Int} {x1 : Bool} {ret : (Int × Int) → Option β} : s1c  s0 s1 x0 x1 ret = (s1c  s0 s1 x0 x1 some).bind ret := by
  simp only [s1c, bif_bind, sum_bind, oa, os, on, ofs]
theorem ev  {s0 : S0} {s1 : S1} {a0 : Int} : evAt (env  s0 s1) [] [0] [.v (.one (.d (.int .i64) a0))] [] some = c  s0 s1 a0 (fun r => some ⟨.tup [(.one (.d (.int .i64) r.1)), (.one (.d (.int .i64) r.2))], []⟩) := by
  kernel_rfl
theorem s0_ev  {s0 : S0} {s1 : S1} {x0 : Int} {x1 : Bool} : evAt (env  s0 s1) [1, 3, 1, 4, 0, 1] [0, 8] [.v (.one (.d (.int .i64) x0)), .v (.one (.d .bool x1))] [] some = s0c  s0 s1 x0 x1 (fun r => some ⟨.tup [(.one (.d (.int .i64) r.1)), (.one (.d (.int .i64) r.2))], []⟩) := by
  kernel_rfl
theorem s1_ev  {s0 : S0} {s1 : S1} {x0 : Int} {x1 : Bool} : evAt (env  s0 s1) [1, 3, 1, 3, 1, 4, 0, 1] [0, 17] [.v (.one (.d (.int .i64) x0)), .v (.one (.d .bool x1))] [] some = s1c  s0 s1 x0 x1 (fun r => some ⟨.tup [(.one (.d (.int .i64) r.1)), (.one (.d (.int .i64) r.2))], []⟩) := by
  kernel_rfl
mutual
def s0 : Nat → Int → Bool → Option (Int × Int)
  | 0, _, _ => none
  | k + 1, x0, x1 => s0c  (s0 k) (s1 k) x0 x1 some
def s1 : Nat → Int → Bool → Option (Int × Int)
  | 0, _, _ => none
  | k + 1, x0, x1 => s1c  (s0 k) (s1 k) x0 x1 some
end
def f (k : Nat) (a0 : Int) : Option (Int × Int) := c  (s0 k) (s1 k) a0 some
theorem is  {s0 : S0} {s1 : S1} : FnIs (env  s0 s1) 96 f96 := ⟨func96, rfl, rfl, rfl, by decide⟩
theorem envok  {s0 : S0} {s1 : S1}  : EnvOK (env  s0 s1).toEnv := by
  intro f c h
  simp only [env] at h
  simp at h
noncomputable abbrev E (k : Nat) : FEnv := env  (s0 k) (s1 k)
theorem hE (k : Nat) : EnvOK (E k).toEnv := envok 
theorem segs_ok : ∀ k, ∀ s ∈ (E k).segs, SegOK (E k) f96 s
  | 0 => by
    intro s hs
    simp only [E, env, List.mem_cons, List.not_mem_nil, or_false] at hs
    rcases hs with rfl | rfl
    · intro tvs blks res h; exfalso; simp only [sg0] at h; split at h <;> simp [s0] at h
    · intro tvs blks res h; exfalso; simp only [sg1] at h; split at h <;> simp [s1] at h
  | k + 1 => by
    intro s hs
    simp only [E, env, List.mem_cons, List.not_mem_nil, or_false] at hs
    rcases hs with rfl | rfl
    · refine seg_of_ev (E := E k) (hE k) ⟨is.rvs⟩ (segs_ok k) ?_
      intro tvs blks res h
      simp only [sg0] at h
      split at h
      · exact (s0_ev.trans s0c_bind).trans h
      · simp at h
    · refine seg_of_ev (E := E k) (hE k) ⟨is.rvs⟩ (segs_ok k) ?_
      intro tvs blks res h
      simp only [sg1] at h
      split at h
      · exact (s1_ev.trans s1c_bind).trans h
      · simp at h
theorem ok (k : Nat) : CtOK prog 96 (ct (f k)) := by
  refine ct_of_ev (E := E k) is (hE k) (segs_ok k) rfl ?_
  intro tvs blks res h
  simp only [ct] at h
  split at h
  · exact (ev.trans c_bind).trans h
  · simp at h
end transomref01_lead
namespace transomref01_among
abbrev G : Type := Int → Int → Int → Option Bool
def ct (g : G) : Ct where
  nin := 0
  mv := []
  F := fun tvs blks {β} K => match tvs, blks with
    | [.v (.one (.d (.int .i64) a0)), .v (.one (.d (.int .i64) a1)), .v (.one (.d (.int .i64) a2))], [] => (g a0 a1 a2).bind fun r => K ⟨.v (.one (.d .bool r)), []⟩
    | _, _ => none
  legit := fun _ _ K _ h => by split at h; exact (legit1 K h :); simp at h
abbrev S0 : Type := Int → Int → Int → Int → Int → Option Bool
abbrev S1 : Type := Int → Int → Int → Int → Int → Option Bool
abbrev S2 : Type := Int → Int → Int → Int → Option Bool
def sg0 (g : S0) : Seg where
  path := [1, 1, 1]
  prep := []
  keep := [0, 1, 2, 7, 8]
  F := fun tvs blks {β} K => match tvs, blks with
    | [.v (.one (.d (.int .i64) x0)), .v (.one (.d (.int .i64) x1)), .v (.one (.d (.int .i64) x2)), .v (.one (.d (.int .i64) x3)), .v (.one (.d (.int .i64) x4))], [] => (g x0 x1 x2 x3 x4).bind fun r => K ⟨.v (.one (.d .bool r)), []⟩
    | _, _ => none
  legit := fun _ _ K _ h => by split at h; exact (legit1 K h :); simp at h
def sg1 (g : S1) : Seg where
  path := [1, 1, 1, 1]
  prep := []
  keep := [0, 1, 2, 7, 8]
  F := fun tvs blks {β} K => match tvs, blks with
    | [.v (.one (.d (.int .i64) x0)), .v (.one (.d (.int .i64) x1)), .v (.one (.d (.int .i64) x2)), .v (.one (.d (.int .i64) x3)), .v (.one (.d (.int .i64) x4))], [] => (g x0 x1 x2 x3 x4).bind fun r => K ⟨.v (.one (.d .bool r)), []⟩
    | _, _ => none
  legit := fun _ _ K _ h => by split at h; exact (legit1 K h :); simp at h
def sg2 (g : S2) : Seg where
  path := [1, 1, 1, 1, 1]
  prep := []
  keep := [0, 1, 7, 8]
  F := fun tvs blks {β} K => match tvs, blks with
    | [.v (.one (.d (.int .i64) x0)), .v (.one (.d (.int .i64) x1)), .v (.one (.d (.int .i64) x2)), .v (.one (.d (.int .i64) x3))], [] => (g x0 x1 x2 x3).bind fun r => K ⟨.v (.one (.d .bool r)), []⟩
    | _, _ => none
  legit := fun _ _ K _ h => by split at h; exact (legit1 K h :); simp at h
noncomputable def env  (s0 : S0) (s1 : S1) (s2 : S2) : FEnv := { P := prog, ct := fun m => none, N := 30, body := f97.body.getD .skip, rvs := [.tmp 6], rts := [4], nin := 0, rmv := [], segs := [sg0 s0, sg1 s1, sg2 s2] }
def c {β : Type}  (s0 : S0) (s1 : S1) (s2 : S2) (a0 : Int) (a1 : Int) (a2 : Int) (ret : Bool → Option β) : Option β := (bif (a2 == (2 : Int)) then ((s0 a0 a1 a2 (128 : Int) (2047 : Int)).bind ret) else ((s0 a0 a1 a2 (0 : Int) (127 : Int)).bind ret))
def s0c {β : Type}  (s0 : S0) (s1 : S1) (s2 : S2) (x0 : Int) (x1 : Int) (x2 : Int) (x3 : Int) (x4 : Int) (ret : Bool → Option β) : Option β := (bif (x2 == (3 : Int)) then ((s1 x0 x1 x2 (2048 : Int) (65535 : Int)).bind ret) else ((s1 x0 x1 x2 x3 x4).bind ret))
def s1c {β : Type}  (s0 : S0) (s1 : S1) (s2 : S2) (x0 : Int) (x1 : Int) (x2 : Int) (x3 : Int) (x4 : Int) (ret : Bool → Option β) : Option β := (bif (x2 == (4 : Int)) then ((s2 x0 x1 (65536 : Int) (1114111 : Int)).bind ret) else ((s2 x0 x1 x3 x4).bind ret))
def s2c {β : Type}  (s0 : S0) (s1 : S1) (s2 : S2) (x0 : Int) (x1 : Int) (x2 : Int) (x3 : Int) (ret : Bool → Option β) : Option β := (bif (decide ((if (x2 > x0) then x2 else x0) > (if (x3 < x1) then x3 else x1))) then (ret (false)) else (bif (decide ((if (x2 > x0) then x2 else x0) < (55296 : Int))) then (ret (true)) else (ret ((decide ((if (x3 < x1) then x3 else x1) > (57343 : Int)))))))
theorem c_bind {β : Type}  {s0 : S0} {s1 : S1} {s2 : S2} {a0 : Int} {a1 : Int} {a2 : Int} {ret : Bool → Option β} : c  s0 s1 s2 a0 a1 a2 ret = (c  s0 s1 s2 a0 a1 a2 some).bind ret := by
  simp only [c, bif_bind, sum_bind, oa, os, on, ofs]
theorem s0c_bind {β : Type}  {s0 : S0} {s1 : S1} {s2 : S2} {x0 : Int} {x1 : Int} {x2 : Int} {x3 : Int} {x4 : Int} {ret : Bool → Option β} : s0c  s0 s1 s2 x0 x1 x2 x3 x4 ret = (s0c  s0 s1 s2 x0 x1 x2 x3 x4 some).bind ret := by
  simp only [s0c, bif_bind, sum_bind, oa, os, on, ofs]
theorem s1c_bind {β : Type}  {s0 : S0} {s1 : S1} {s2 : S2} {x0 : Int} {x1 : Int} {x2 : Int} {x3 : Int} {x4 : Int} {ret : Bool → Option β} : s1c  s0 s1 s2 x0 x1 x2 x3 x4 ret = (s1c  s0 s1 s2 x0 x1 x2 x3 x4 some).bind ret := by
  simp only [s1c, bif_bind, sum_bind, oa, os, on, ofs]
theorem s2c_bind {β : Type}  {s0 : S0} {s1 : S1} {s2 : S2} {x0 : Int} {x1 : Int} {x2 : Int} {x3 : Int} {ret : Bool → Option β} : s2c  s0 s1 s2 x0 x1 x2 x3 ret = (s2c  s0 s1 s2 x0 x1 x2 x3 some).bind ret := by
  simp only [s2c, bif_bind, sum_bind, oa, os, on, ofs]
theorem ev  {s0 : S0} {s1 : S1} {s2 : S2} {a0 : Int} {a1 : Int} {a2 : Int} : evAt (env  s0 s1 s2) [] [0, 1, 2] [.v (.one (.d (.int .i64) a0)), .v (.one (.d (.int .i64) a1)), .v (.one (.d (.int .i64) a2))] [] some = c  s0 s1 s2 a0 a1 a2 (fun r => some ⟨.v (.one (.d .bool r)), []⟩) := by
  kernel_rfl
theorem s0_ev  {s0 : S0} {s1 : S1} {s2 : S2} {x0 : Int} {x1 : Int} {x2 : Int} {x3 : Int} {x4 : Int} : evAt (env  s0 s1 s2) [1, 1, 1] [0, 1, 2, 7, 8] [.v (.one (.d (.int .i64) x0)), .v (.one (.d (.int .i64) x1)), .v (.one (.d (.int .i64) x2)), .v (.one (.d (.int .i64) x3)), .v (.one (.d (.int .i64) x4))] [] some = s0c  s0 s1 s2 x0 x1 x2 x3 x4 (fun r => some ⟨.v (.one (.d .bool r)), []⟩) := by
  kernel_rfl
theorem s1_ev  {s0 : S0} {s1 : S1} {s2 : S2} {x0 : Int} {x1 : Int} {x2 : Int} {x3 : Int} {x4 : Int} : evAt (env  s0 s1 s2) [1, 1, 1, 1] [0, 1, 2, 7, 8] [.v (.one (.d (.int .i64) x0)), .v (.one (.d (.int .i64) x1)), .v (.one (.d (.int .i64) x2)), .v (.one (.d (.int .i64) x3)), .v (.one (.d (.int .i64) x4))] [] some = s1c  s0 s1 s2 x0 x1 x2 x3 x4 (fun r => some ⟨.v (.one (.d .bool r)), []⟩) := by
  kernel_rfl
theorem s2_ev  {s0 : S0} {s1 : S1} {s2 : S2} {x0 : Int} {x1 : Int} {x2 : Int} {x3 : Int} : evAt (env  s0 s1 s2) [1, 1, 1, 1, 1] [0, 1, 7, 8] [.v (.one (.d (.int .i64) x0)), .v (.one (.d (.int .i64) x1)), .v (.one (.d (.int .i64) x2)), .v (.one (.d (.int .i64) x3))] [] some = s2c  s0 s1 s2 x0 x1 x2 x3 (fun r => some ⟨.v (.one (.d .bool r)), []⟩) := by
  kernel_rfl
mutual
def s0 : Nat → Int → Int → Int → Int → Int → Option Bool
  | 0, _, _, _, _, _ => none
  | k + 1, x0, x1, x2, x3, x4 => s0c  (s0 k) (s1 k) (s2 k) x0 x1 x2 x3 x4 some
def s1 : Nat → Int → Int → Int → Int → Int → Option Bool
  | 0, _, _, _, _, _ => none
  | k + 1, x0, x1, x2, x3, x4 => s1c  (s0 k) (s1 k) (s2 k) x0 x1 x2 x3 x4 some
def s2 : Nat → Int → Int → Int → Int → Option Bool
  | 0, _, _, _, _ => none
  | k + 1, x0, x1, x2, x3 => s2c  (s0 k) (s1 k) (s2 k) x0 x1 x2 x3 some
end
def f (k : Nat) (a0 : Int) (a1 : Int) (a2 : Int) : Option Bool := c  (s0 k) (s1 k) (s2 k) a0 a1 a2 some
theorem is  {s0 : S0} {s1 : S1} {s2 : S2} : FnIs (env  s0 s1 s2) 97 f97 := ⟨func97, rfl, rfl, rfl, by decide⟩
theorem envok  {s0 : S0} {s1 : S1} {s2 : S2}  : EnvOK (env  s0 s1 s2).toEnv := by
  intro f c h
  simp only [env] at h
  simp at h
noncomputable abbrev E (k : Nat) : FEnv := env  (s0 k) (s1 k) (s2 k)
theorem hE (k : Nat) : EnvOK (E k).toEnv := envok 
theorem segs_ok : ∀ k, ∀ s ∈ (E k).segs, SegOK (E k) f97 s
  | 0 => by
    intro s hs
    simp only [E, env, List.mem_cons, List.not_mem_nil, or_false] at hs
    rcases hs with rfl | rfl | rfl
    · intro tvs blks res h; exfalso; simp only [sg0] at h; split at h <;> simp [s0] at h
    · intro tvs blks res h; exfalso; simp only [sg1] at h; split at h <;> simp [s1] at h
    · intro tvs blks res h; exfalso; simp only [sg2] at h; split at h <;> simp [s2] at h
  | k + 1 => by
    intro s hs
    simp only [E, env, List.mem_cons, List.not_mem_nil, or_false] at hs
    rcases hs with rfl | rfl | rfl
    · refine seg_of_ev (E := E k) (hE k) ⟨is.rvs⟩ (segs_ok k) ?_
      intro tvs blks res h
      simp only [sg0] at h
      split at h
      · exact (s0_ev.trans s0c_bind).trans h
      · simp at h
    · refine seg_of_ev (E := E k) (hE k) ⟨is.rvs⟩ (segs_ok k) ?_
      intro tvs blks res h
      simp only [sg1] at h
      split at h
      · exact (s1_ev.trans s1c_bind).trans h
      · simp at h
    · refine seg_of_ev (E := E k) (hE k) ⟨is.rvs⟩ (segs_ok k) ?_
      intro tvs blks res h
      simp only [sg2] at h
      split at h
      · exact (s2_ev.trans s2c_bind).trans h
      · simp at h
theorem ok (k : Nat) : CtOK prog 97 (ct (f k)) := by
  refine ct_of_ev (E := E k) is (hE k) (segs_ok k) rfl ?_
  intro tvs blks res h
  simp only [ct] at h
  split at h
  · exact (ev.trans c_bind).trans h
  · simp at h
end transomref01_among
end Go.Proofs.YtdbbkmmillnaiaaGreatDoor.Aev
