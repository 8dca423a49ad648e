/- By a program of this session (AEV): functions of the program as plain functions, and that the machine does what they say. -/
import Derived.Test.YtddlebbjaadbeaaGreatDoorTys
import Derived.Test.YtddlebbjaadbeaaGreatDoorProg
import Derived.Laws.Externs
import Derived.Lib.Bytealg
import Derived.Test.YtddlebbjaadbeaaGreatDoorF10
import Derived.Test.YtddlebbjaadbeaaGreatDoorF12
namespace Go.Proofs.YtddlebbjaadbeaaGreatDoor.Aev
set_option linter.unusedVariables false
set_option linter.unusedSimpArgs false
set_option maxRecDepth 100000
set_option maxHeartbeats 4000000
open Go
/-! ### transomref08_Find: function 80 -/
abbrev G_transomref08_Find : Type := (List ByteArray) → ByteArray → Option Int
def ct_transomref08_Find (g : G_transomref08_Find) : Ct where
  nin := 0
  mv := []
  F := fun tvs blks {β} K => match tvs, blks with
    | [.v (.one (.d (.sl .str) a0)), .v (.one (.d .str a1))], [] => (g a0 a1).bind fun r => K ⟨.v (.one (.d (.int .i64) r)), []⟩
    | _, _ => none
  legit := fun tvs blks K r h => by
    split at h
    · obtain ⟨x, hx, hk⟩ := Option.bind_eq_some_iff.1 h
      refine ⟨_, ?_, hk⟩
      simp only [hx, Option.bind_some]
    · simp at h
abbrev S_transomref08_Find_0 : Type := (List ByteArray) → ByteArray → Int → Option Int
def seg_transomref08_Find_0 (g : S_transomref08_Find_0) : Seg where
  path := [4, 1, 0, 1]
  prep := []
  keep := [0, 1, 5]
  F := fun tvs blks {β} K => match tvs, blks with
    | [.v (.one (.d (.sl .str) x0)), .v (.one (.d .str x1)), .v (.one (.d (.int .i64) x2))], [] => (g x0 x1 x2).bind fun r => K ⟨.v (.one (.d (.int .i64) r)), []⟩
    | _, _ => none
  legit := fun tvs blks K r h => by
    split at h
    · obtain ⟨x, hx, hk⟩ := Option.bind_eq_some_iff.1 h
      refine ⟨_, ?_, hk⟩
      simp only [hx, Option.bind_some]
    · simp at h
noncomputable def env_transomref08_Find  (s0 : S_transomref08_Find_0) : FEnv := { P := Go.Proofs.Tryz.prog, ct := fun m => none, N := 19, body := Go.Proofs.Tryz.f80.body.getD .skip, rvs := [.tmp 4], rts := [3], nin := 0, rmv := [], segs := [seg_transomref08_Find_0 s0] }
def transomref08_Find.c {β : Type}  (s0 : S_transomref08_Find_0) (a0 : List ByteArray) (a1 : ByteArray) (ret : Int → Option β) : Option β := ((s0 a0 a1 (0 : Int)).bind ret)
def transomref08_Find.s0c {β : Type}  (s0 : S_transomref08_Find_0) (x0 : List ByteArray) (x1 : ByteArray) (x2 : Int) (ret : Int → Option β) : Option β := (bif (decide (x2 < ((List.length x0) : Int))) then (bif ((decide ((0 : Int) ≤ x2)) && (decide (x2 < ((List.length x0) : Int)))) then (bif ((ByteArray.toList (elem Ty.str x0 x2)) == (ByteArray.toList x1)) then (ret (x2)) else ((s0 x0 x1 (IntKind.wrap IntKind.i64 (x2 + (1 : Int)))).bind ret)) else none) else (ret ((-1 : Int))))
theorem transomref08_Find.c_bind {β : Type}  {s0 : S_transomref08_Find_0} {a0 : List ByteArray} {a1 : ByteArray} {ret : Int → Option β} : transomref08_Find.c  s0 a0 a1 ret = (transomref08_Find.c  s0 a0 a1 some).bind ret := by
  simp only [transomref08_Find.c, bif_bind, sum_bind, Option.bind_assoc, Option.bind_some, Option.bind_none, Option.bind_fun_some]
theorem transomref08_Find.s0c_bind {β : Type}  {s0 : S_transomref08_Find_0} {x0 : List ByteArray} {x1 : ByteArray} {x2 : Int} {ret : Int → Option β} : transomref08_Find.s0c  s0 x0 x1 x2 ret = (transomref08_Find.s0c  s0 x0 x1 x2 some).bind ret := by
  simp only [transomref08_Find.s0c, bif_bind, sum_bind, Option.bind_assoc, Option.bind_some, Option.bind_none, Option.bind_fun_some]
theorem transomref08_Find.ev  {s0 : S_transomref08_Find_0} {a0 : List ByteArray} {a1 : ByteArray} : evAt (env_transomref08_Find  s0) [] [0, 1] [.v (.one (.d (.sl .str) a0)), .v (.one (.d .str a1))] [] some = transomref08_Find.c  s0 a0 a1 (fun r => some ⟨.v (.one (.d (.int .i64) r)), []⟩) := by
  kernel_rfl
theorem transomref08_Find.s0_ev  {s0 : S_transomref08_Find_0} {x0 : List ByteArray} {x1 : ByteArray} {x2 : Int} : evAt (env_transomref08_Find  s0) [4, 1, 0, 1] [0, 1, 5] [.v (.one (.d (.sl .str) x0)), .v (.one (.d .str x1)), .v (.one (.d (.int .i64) x2))] [] some = transomref08_Find.s0c  s0 x0 x1 x2 (fun r => some ⟨.v (.one (.d (.int .i64) r)), []⟩) := by
  kernel_rfl
def transomref08_Find.s0 : Nat → (List ByteArray) → ByteArray → Int → Option Int
  | 0, _, _, _ => none
  | k + 1, x0, x1, x2 => transomref08_Find.s0c  (transomref08_Find.s0 k) x0 x1 x2 some
def transomref08_Find.f (k : Nat) (a0 : List ByteArray) (a1 : ByteArray) : Option Int := transomref08_Find.c  (transomref08_Find.s0 k) a0 a1 some
theorem transomref08_Find.is  {s0 : S_transomref08_Find_0} : FnIs (env_transomref08_Find  s0) 80 Go.Proofs.Tryz.f80 := ⟨Go.Proofs.Tryz.func80, rfl, rfl, rfl, by decide⟩
theorem transomref08_Find.envok  {s0 : S_transomref08_Find_0}  : EnvOK (env_transomref08_Find  s0).toEnv := by
  intro f c h
  simp only [env_transomref08_Find] at h
  simp at h
noncomputable abbrev transomref08_Find.E (k : Nat) : FEnv := env_transomref08_Find  (transomref08_Find.s0 k)
theorem transomref08_Find.hE (k : Nat) : EnvOK (transomref08_Find.E k).toEnv := transomref08_Find.envok 
theorem transomref08_Find.segs_ok : ∀ k, ∀ s ∈ (transomref08_Find.E k).segs, SegOK (transomref08_Find.E k) Go.Proofs.Tryz.f80 s
  | 0 => by
    intro s hs
    simp only [transomref08_Find.E, env_transomref08_Find, List.mem_cons, List.not_mem_nil, or_false] at hs
    rcases hs with rfl
    · intro tvs blks res h; exfalso; simp only [seg_transomref08_Find_0] at h; split at h <;> simp [transomref08_Find.s0] at h
  | k + 1 => by
    intro s hs
    simp only [transomref08_Find.E, env_transomref08_Find, List.mem_cons, List.not_mem_nil, or_false] at hs
    rcases hs with rfl
    · refine seg_of_ev (E := transomref08_Find.E k) (transomref08_Find.hE k) ⟨transomref08_Find.is.rvs⟩ (transomref08_Find.segs_ok k) ?_
      intro tvs blks res h
      simp only [seg_transomref08_Find_0] at h
      split at h
      · exact (transomref08_Find.s0_ev.trans transomref08_Find.s0c_bind).trans h
      · simp at h
theorem transomref08_Find.ok (k : Nat) : CtOK Go.Proofs.Tryz.prog 80 (ct_transomref08_Find (transomref08_Find.f k)) := by
  refine ct_of_ev (E := transomref08_Find.E k) transomref08_Find.is (transomref08_Find.hE k) (transomref08_Find.segs_ok k) rfl ?_
  intro tvs blks res h
  simp only [ct_transomref08_Find] at h
  split at h
  · exact (transomref08_Find.ev.trans transomref08_Find.c_bind).trans h
  · simp at h

/-! ### transomref08_Unlike: function 56 -/
abbrev G_transomref08_Unlike : Type := (List ByteArray) → Option Bool
def ct_transomref08_Unlike (g : G_transomref08_Unlike) : Ct where
  nin := 0
  mv := []
  F := fun tvs blks {β} K => match tvs, blks with
    | [.v (.one (.d (.sl .str) a0))], [] => (g a0).bind fun r => K ⟨.v (.one (.d .bool r)), []⟩
    | _, _ => none
  legit := fun tvs blks K r h => by
    split at h
    · obtain ⟨x, hx, hk⟩ := Option.bind_eq_some_iff.1 h
      refine ⟨_, ?_, hk⟩
      simp only [hx, Option.bind_some]
    · simp at h
abbrev S_transomref08_Unlike_0 : Type := (List ByteArray) → Int → Option Bool
def seg_transomref08_Unlike_0 (g : S_transomref08_Unlike_0) : Seg where
  path := [4, 1, 0, 1]
  prep := []
  keep := [0, 3]
  F := fun tvs blks {β} K => match tvs, blks with
    | [.v (.one (.d (.sl .str) x0)), .v (.one (.d (.int .i64) x1))], [] => (g x0 x1).bind fun r => K ⟨.v (.one (.d .bool r)), []⟩
    | _, _ => none
  legit := fun tvs blks K r h => by
    split at h
    · obtain ⟨x, hx, hk⟩ := Option.bind_eq_some_iff.1 h
      refine ⟨_, ?_, hk⟩
      simp only [hx, Option.bind_some]
    · simp at h
noncomputable def env_transomref08_Unlike (g80 : G_transomref08_Find) (s0 : S_transomref08_Unlike_0) : FEnv := { P := Go.Proofs.Tryz.prog, ct := fun m => if m = 80 then some (ct_transomref08_Find g80) else none, N := 18, body := Go.Proofs.Tryz.f56.body.getD .skip, rvs := [.tmp 2], rts := [4], nin := 0, rmv := [], segs := [seg_transomref08_Unlike_0 s0] }
def transomref08_Unlike.c {β : Type} (g80 : G_transomref08_Find) (s0 : S_transomref08_Unlike_0) (a0 : List ByteArray) (ret : Bool → Option β) : Option β := ((s0 a0 (0 : Int)).bind ret)
def transomref08_Unlike.s0c {β : Type} (g80 : G_transomref08_Find) (s0 : S_transomref08_Unlike_0) (x0 : List ByteArray) (x1 : Int) (ret : Bool → Option β) : Option β := (bif (decide (x1 < ((List.length x0) : Int))) then (bif ((decide ((0 : Int) ≤ x1)) && (decide (x1 < ((List.length x0) : Int)))) then ((g80 x0 (elem Ty.str x0 x1)).bind fun r0 => (bif (r0 != x1) then (ret (false)) else ((s0 x0 (IntKind.wrap IntKind.i64 (x1 + (1 : Int)))).bind ret))) else none) else (ret (true)))
theorem transomref08_Unlike.c_bind {β : Type} {g80 : G_transomref08_Find} {s0 : S_transomref08_Unlike_0} {a0 : List ByteArray} {ret : Bool → Option β} : transomref08_Unlike.c g80 s0 a0 ret = (transomref08_Unlike.c g80 s0 a0 some).bind ret := by
  simp only [transomref08_Unlike.c, bif_bind, sum_bind, Option.bind_assoc, Option.bind_some, Option.bind_none, Option.bind_fun_some]
theorem transomref08_Unlike.s0c_bind {β : Type} {g80 : G_transomref08_Find} {s0 : S_transomref08_Unlike_0} {x0 : List ByteArray} {x1 : Int} {ret : Bool → Option β} : transomref08_Unlike.s0c g80 s0 x0 x1 ret = (transomref08_Unlike.s0c g80 s0 x0 x1 some).bind ret := by
  simp only [transomref08_Unlike.s0c, bif_bind, sum_bind, Option.bind_assoc, Option.bind_some, Option.bind_none, Option.bind_fun_some]
theorem transomref08_Unlike.ev {g80 : G_transomref08_Find} {s0 : S_transomref08_Unlike_0} {a0 : List ByteArray} : evAt (env_transomref08_Unlike g80 s0) [] [0] [.v (.one (.d (.sl .str) a0))] [] some = transomref08_Unlike.c g80 s0 a0 (fun r => some ⟨.v (.one (.d .bool r)), []⟩) := by
  kernel_rfl
theorem transomref08_Unlike.s0_ev {g80 : G_transomref08_Find} {s0 : S_transomref08_Unlike_0} {x0 : List ByteArray} {x1 : Int} : evAt (env_transomref08_Unlike g80 s0) [4, 1, 0, 1] [0, 3] [.v (.one (.d (.sl .str) x0)), .v (.one (.d (.int .i64) x1))] [] some = transomref08_Unlike.s0c g80 s0 x0 x1 (fun r => some ⟨.v (.one (.d .bool r)), []⟩) := by
  kernel_rfl
def transomref08_Unlike.s0 : Nat → (List ByteArray) → Int → Option Bool
  | 0, _, _ => none
  | k + 1, x0, x1 => transomref08_Unlike.s0c (transomref08_Find.f k) (transomref08_Unlike.s0 k) x0 x1 some
def transomref08_Unlike.f (k : Nat) (a0 : List ByteArray) : Option Bool := transomref08_Unlike.c (transomref08_Find.f k) (transomref08_Unlike.s0 k) a0 some
theorem transomref08_Unlike.is {g80 : G_transomref08_Find} {s0 : S_transomref08_Unlike_0} : FnIs (env_transomref08_Unlike g80 s0) 56 Go.Proofs.Tryz.f56 := ⟨Go.Proofs.Tryz.func56, rfl, rfl, rfl, by decide⟩
theorem transomref08_Unlike.envok {g80 : G_transomref08_Find} {s0 : S_transomref08_Unlike_0} (h80 : CtOK Go.Proofs.Tryz.prog 80 (ct_transomref08_Find g80)) : EnvOK (env_transomref08_Unlike g80 s0).toEnv := by
  intro f c h
  simp only [env_transomref08_Unlike] at h
  split at h
  · rename_i e; subst e; cases h; exact h80
  simp at h
noncomputable abbrev transomref08_Unlike.E (k : Nat) : FEnv := env_transomref08_Unlike (transomref08_Find.f k) (transomref08_Unlike.s0 k)
theorem transomref08_Unlike.hE (k : Nat) : EnvOK (transomref08_Unlike.E k).toEnv := transomref08_Unlike.envok (transomref08_Find.ok k)
theorem transomref08_Unlike.segs_ok : ∀ k, ∀ s ∈ (transomref08_Unlike.E k).segs, SegOK (transomref08_Unlike.E k) Go.Proofs.Tryz.f56 s
  | 0 => by
    intro s hs
    simp only [transomref08_Unlike.E, env_transomref08_Unlike, List.mem_cons, List.not_mem_nil, or_false] at hs
    rcases hs with rfl
    · intro tvs blks res h; exfalso; simp only [seg_transomref08_Unlike_0] at h; split at h <;> simp [transomref08_Unlike.s0] at h
  | k + 1 => by
    intro s hs
    simp only [transomref08_Unlike.E, env_transomref08_Unlike, List.mem_cons, List.not_mem_nil, or_false] at hs
    rcases hs with rfl
    · refine seg_of_ev (E := transomref08_Unlike.E k) (transomref08_Unlike.hE k) ⟨transomref08_Unlike.is.rvs⟩ (transomref08_Unlike.segs_ok k) ?_
      intro tvs blks res h
      simp only [seg_transomref08_Unlike_0] at h
      split at h
      · exact (transomref08_Unlike.s0_ev.trans transomref08_Unlike.s0c_bind).trans h
      · simp at h
theorem transomref08_Unlike.ok (k : Nat) : CtOK Go.Proofs.Tryz.prog 56 (ct_transomref08_Unlike (transomref08_Unlike.f k)) := by
  refine ct_of_ev (E := transomref08_Unlike.E k) transomref08_Unlike.is (transomref08_Unlike.hE k) (transomref08_Unlike.segs_ok k) rfl ?_
  intro tvs blks res h
  simp only [ct_transomref08_Unlike] at h
  split at h
  · exact (transomref08_Unlike.ev.trans transomref08_Unlike.c_bind).trans h
  · simp at h

/-! ### transomref09_Names: function 57 -/
abbrev G_transomref09_Names : Type := (List D_api_Col) → Option ((List ByteArray))
def ct_transomref09_Names (g : G_transomref09_Names) : Ct where
  nin := 0
  mv := []
  F := fun tvs blks {β} K => match tvs, blks with
    | [.v (.one (.d (.sl (.pair .str (.pair (.int .i64) (.pair .bool (.pair (.pair (.int .i64) (.pair (.int .i64) (.pair (.int .u64) (.pair .str .unit)))) .unit))))) a0))], [] => (g a0).bind fun r => K ⟨.v (.one (.d (.sl .str) r)), []⟩
    | _, _ => none
  legit := fun tvs blks K r h => by
    split at h
    · obtain ⟨x, hx, hk⟩ := Option.bind_eq_some_iff.1 h
      refine ⟨_, ?_, hk⟩
      simp only [hx, Option.bind_some]
    · simp at h
abbrev S_transomref09_Names_0 : Type := (List D_api_Col) → Int → (List ByteArray) → Option ((List ByteArray))
def seg_transomref09_Names_0 (g : S_transomref09_Names_0) : Seg where
  path := [4, 1, 0, 1, 1]
  prep := [.own 3 .str]
  keep := [0, 3, 4]
  F := fun tvs blks {β} K => match tvs, blks with
    | [.v (.one (.d (.sl (.pair .str (.pair (.int .i64) (.pair .bool (.pair (.pair (.int .i64) (.pair (.int .i64) (.pair (.int .u64) (.pair .str .unit)))) .unit))))) x0)), .v (.one (.own 0)), .v (.one (.d (.int .i64) x1))], [some (.own .str false x2)] => (g x0 x1 x2).bind fun r => K ⟨.v (.one (.d (.sl .str) r)), []⟩
    | _, _ => none
  legit := fun tvs blks K r h => by
    split at h
    · obtain ⟨x, hx, hk⟩ := Option.bind_eq_some_iff.1 h
      refine ⟨_, ?_, hk⟩
      simp only [hx, Option.bind_some]
    · simp at h
noncomputable def env_transomref09_Names  (s0 : S_transomref09_Names_0) : FEnv := { P := Go.Proofs.Tryz.prog, ct := fun m => none, N := 20, body := Go.Proofs.Tryz.f57.body.getD .skip, rvs := [.tmp 2], rts := [85], nin := 0, rmv := [], segs := [seg_transomref09_Names_0 s0] }
def transomref09_Names.c {β : Type}  (s0 : S_transomref09_Names_0) (a0 : List D_api_Col) (ret : ((List ByteArray)) → Option β) : Option β := ((s0 a0 (0 : Int) []).bind ret)
def transomref09_Names.s0c {β : Type}  (s0 : S_transomref09_Names_0) (x0 : List D_api_Col) (x1 : Int) (x2 : List ByteArray) (ret : ((List ByteArray)) → Option β) : Option β := (bif (decide (x1 < ((List.length x0) : Int))) then (bif ((decide ((0 : Int) ≤ x1)) && (decide (x1 < ((List.length x0) : Int)))) then (bif (decide ((((List.length x2) + (1 : Nat)) * (16 : Nat)) ≤ (35184372088832 : Nat))) then ((s0 x0 (IntKind.wrap IntKind.i64 (x1 + (1 : Int))) (x2 ++ [(elem T_api_Col x0 x1).1])).bind ret) else none) else none) else (ret (x2)))
theorem transomref09_Names.c_bind {β : Type}  {s0 : S_transomref09_Names_0} {a0 : List D_api_Col} {ret : ((List ByteArray)) → Option β} : transomref09_Names.c  s0 a0 ret = (transomref09_Names.c  s0 a0 some).bind ret := by
  simp only [transomref09_Names.c, bif_bind, sum_bind, Option.bind_assoc, Option.bind_some, Option.bind_none, Option.bind_fun_some]
theorem transomref09_Names.s0c_bind {β : Type}  {s0 : S_transomref09_Names_0} {x0 : List D_api_Col} {x1 : Int} {x2 : List ByteArray} {ret : ((List ByteArray)) → Option β} : transomref09_Names.s0c  s0 x0 x1 x2 ret = (transomref09_Names.s0c  s0 x0 x1 x2 some).bind ret := by
  simp only [transomref09_Names.s0c, bif_bind, sum_bind, Option.bind_assoc, Option.bind_some, Option.bind_none, Option.bind_fun_some]
theorem transomref09_Names.ev  {s0 : S_transomref09_Names_0} {a0 : List D_api_Col} : evAt (env_transomref09_Names  s0) [] [0] [.v (.one (.d (.sl T_api_Col) a0))] [] some = transomref09_Names.c  s0 a0 (fun r => some ⟨.v (.one (.d (.sl .str) r)), []⟩) := by
  kernel_rfl
theorem transomref09_Names.s0_ev  {s0 : S_transomref09_Names_0} {x0 : List D_api_Col} {x1 : Int} {x2 : List ByteArray} : evAt (env_transomref09_Names  s0) [4, 1, 0, 1, 1] [0, 3, 4] [.v (.one (.d (.sl T_api_Col) x0)), .v (.one (.own 0)), .v (.one (.d (.int .i64) x1))] [some (.own .str false x2)] some = transomref09_Names.s0c  s0 x0 x1 x2 (fun r => some ⟨.v (.one (.d (.sl .str) r)), []⟩) := by
  kernel_rfl
def transomref09_Names.s0 : Nat → (List D_api_Col) → Int → (List ByteArray) → Option ((List ByteArray))
  | 0, _, _, _ => none
  | k + 1, x0, x1, x2 => transomref09_Names.s0c  (transomref09_Names.s0 k) x0 x1 x2 some
def transomref09_Names.f (k : Nat) (a0 : List D_api_Col) : Option ((List ByteArray)) := transomref09_Names.c  (transomref09_Names.s0 k) a0 some
theorem transomref09_Names.is  {s0 : S_transomref09_Names_0} : FnIs (env_transomref09_Names  s0) 57 Go.Proofs.Tryz.f57 := ⟨Go.Proofs.Tryz.func57, rfl, rfl, rfl, by decide⟩
theorem transomref09_Names.envok  {s0 : S_transomref09_Names_0}  : EnvOK (env_transomref09_Names  s0).toEnv := by
  intro f c h
  simp only [env_transomref09_Names] at h
  simp at h
noncomputable abbrev transomref09_Names.E (k : Nat) : FEnv := env_transomref09_Names  (transomref09_Names.s0 k)
theorem transomref09_Names.hE (k : Nat) : EnvOK (transomref09_Names.E k).toEnv := transomref09_Names.envok 
theorem transomref09_Names.segs_ok : ∀ k, ∀ s ∈ (transomref09_Names.E k).segs, SegOK (transomref09_Names.E k) Go.Proofs.Tryz.f57 s
  | 0 => by
    intro s hs
    simp only [transomref09_Names.E, env_transomref09_Names, List.mem_cons, List.not_mem_nil, or_false] at hs
    rcases hs with rfl
    · intro tvs blks res h; exfalso; simp only [seg_transomref09_Names_0] at h; split at h <;> simp [transomref09_Names.s0] at h
  | k + 1 => by
    intro s hs
    simp only [transomref09_Names.E, env_transomref09_Names, List.mem_cons, List.not_mem_nil, or_false] at hs
    rcases hs with rfl
    · refine seg_of_ev (E := transomref09_Names.E k) (transomref09_Names.hE k) ⟨transomref09_Names.is.rvs⟩ (transomref09_Names.segs_ok k) ?_
      intro tvs blks res h
      simp only [seg_transomref09_Names_0] at h
      split at h
      · exact (transomref09_Names.s0_ev.trans transomref09_Names.s0c_bind).trans h
      · simp at h
theorem transomref09_Names.ok (k : Nat) : CtOK Go.Proofs.Tryz.prog 57 (ct_transomref09_Names (transomref09_Names.f k)) := by
  refine ct_of_ev (E := transomref09_Names.E k) transomref09_Names.is (transomref09_Names.hE k) (transomref09_Names.segs_ok k) rfl ?_
  intro tvs blks res h
  simp only [ct_transomref09_Names] at h
  split at h
  · exact (transomref09_Names.ev.trans transomref09_Names.c_bind).trans h
  · simp at h

/-! ### transomref09_Check: function 28 -/
abbrev G_transomref09_Check : Type := ByteArray → Int → (List D_api_Col) → Option Int
def ct_transomref09_Check (g : G_transomref09_Check) : Ct where
  nin := 0
  mv := []
  F := fun tvs blks {β} K => match tvs, blks with
    | [.v (.agg [(.d .str a0), (.d (.int .i64) a1), (.d (.sl (.pair .str (.pair (.int .i64) (.pair .bool (.pair (.pair (.int .i64) (.pair (.int .i64) (.pair (.int .u64) (.pair .str .unit)))) .unit))))) a2)])], [] => (g a0 a1 a2).bind fun r => K ⟨.v (.one (.d (.int .i64) r)), []⟩
    | _, _ => none
  legit := fun tvs blks K r h => by
    split at h
    · obtain ⟨x, hx, hk⟩ := Option.bind_eq_some_iff.1 h
      refine ⟨_, ?_, hk⟩
      simp only [hx, Option.bind_some]
    · simp at h
abbrev S_transomref09_Check_0 : Type := Bool → ByteArray → Int → (List D_api_Col) → Option Int
abbrev S_transomref09_Check_1 : Type := ByteArray → Int → (List D_api_Col) → Option Int
abbrev S_transomref09_Check_2 : Type := Bool → ByteArray → Int → (List D_api_Col) → Option Int
abbrev S_transomref09_Check_3 : Type := ByteArray → Int → (List D_api_Col) → Option Int
abbrev S_transomref09_Check_4 : Type := Int → ByteArray → Int → (List D_api_Col) → Option Int
abbrev S_transomref09_Check_5 : Type := Int → ByteArray → Int → (List D_api_Col) → Option Int
def seg_transomref09_Check_0 (g : S_transomref09_Check_0) : Seg where
  path := [1, 0, 1, 1]
  prep := []
  keep := [1, 22]
  F := fun tvs blks {β} K => match tvs, blks with
    | [.v (.one (.ptr 0 0)), .v (.one (.d .bool x0))], [some (.box [(.d .str x1), (.d (.int .i64) x2), (.d (.sl (.pair .str (.pair (.int .i64) (.pair .bool (.pair (.pair (.int .i64) (.pair (.int .i64) (.pair (.int .u64) (.pair .str .unit)))) .unit))))) x3)])] => (g x0 x1 x2 x3).bind fun r => K ⟨.v (.one (.d (.int .i64) r)), []⟩
    | _, _ => none
  legit := fun tvs blks K r h => by
    split at h
    · obtain ⟨x, hx, hk⟩ := Option.bind_eq_some_iff.1 h
      refine ⟨_, ?_, hk⟩
      simp only [hx, Option.bind_some]
    · simp at h
def seg_transomref09_Check_1 (g : S_transomref09_Check_1) : Seg where
  path := [1, 1, 1]
  prep := []
  keep := [1]
  F := fun tvs blks {β} K => match tvs, blks with
    | [.v (.one (.ptr 0 0))], [some (.box [(.d .str x0), (.d (.int .i64) x1), (.d (.sl (.pair .str (.pair (.int .i64) (.pair .bool (.pair (.pair (.int .i64) (.pair (.int .i64) (.pair (.int .u64) (.pair .str .unit)))) .unit))))) x2)])] => (g x0 x1 x2).bind fun r => K ⟨.v (.one (.d (.int .i64) r)), []⟩
    | _, _ => none
  legit := fun tvs blks K r h => by
    split at h
    · obtain ⟨x, hx, hk⟩ := Option.bind_eq_some_iff.1 h
      refine ⟨_, ?_, hk⟩
      simp only [hx, Option.bind_some]
    · simp at h
def seg_transomref09_Check_2 (g : S_transomref09_Check_2) : Seg where
  path := [1, 0, 1, 1, 1]
  prep := []
  keep := [1, 38]
  F := fun tvs blks {β} K => match tvs, blks with
    | [.v (.one (.ptr 0 0)), .v (.one (.d .bool x0))], [some (.box [(.d .str x1), (.d (.int .i64) x2), (.d (.sl (.pair .str (.pair (.int .i64) (.pair .bool (.pair (.pair (.int .i64) (.pair (.int .i64) (.pair (.int .u64) (.pair .str .unit)))) .unit))))) x3)])] => (g x0 x1 x2 x3).bind fun r => K ⟨.v (.one (.d (.int .i64) r)), []⟩
    | _, _ => none
  legit := fun tvs blks K r h => by
    split at h
    · obtain ⟨x, hx, hk⟩ := Option.bind_eq_some_iff.1 h
      refine ⟨_, ?_, hk⟩
      simp only [hx, Option.bind_some]
    · simp at h
def seg_transomref09_Check_3 (g : S_transomref09_Check_3) : Seg where
  path := [1, 1, 1, 1]
  prep := []
  keep := [1]
  F := fun tvs blks {β} K => match tvs, blks with
    | [.v (.one (.ptr 0 0))], [some (.box [(.d .str x0), (.d (.int .i64) x1), (.d (.sl (.pair .str (.pair (.int .i64) (.pair .bool (.pair (.pair (.int .i64) (.pair (.int .i64) (.pair (.int .u64) (.pair .str .unit)))) .unit))))) x2)])] => (g x0 x1 x2).bind fun r => K ⟨.v (.one (.d (.int .i64) r)), []⟩
    | _, _ => none
  legit := fun tvs blks K r h => by
    split at h
    · obtain ⟨x, hx, hk⟩ := Option.bind_eq_some_iff.1 h
      refine ⟨_, ?_, hk⟩
      simp only [hx, Option.bind_some]
    · simp at h
def seg_transomref09_Check_4 (g : S_transomref09_Check_4) : Seg where
  path := [4, 1, 0, 1, 1, 1, 1]
  prep := []
  keep := [1, 4]
  F := fun tvs blks {β} K => match tvs, blks with
    | [.v (.one (.ptr 0 0)), .v (.one (.d (.int .i64) x0))], [some (.box [(.d .str x1), (.d (.int .i64) x2), (.d (.sl (.pair .str (.pair (.int .i64) (.pair .bool (.pair (.pair (.int .i64) (.pair (.int .i64) (.pair (.int .u64) (.pair .str .unit)))) .unit))))) x3)])] => (g x0 x1 x2 x3).bind fun r => K ⟨.v (.one (.d (.int .i64) r)), []⟩
    | _, _ => none
  legit := fun tvs blks K r h => by
    split at h
    · obtain ⟨x, hx, hk⟩ := Option.bind_eq_some_iff.1 h
      refine ⟨_, ?_, hk⟩
      simp only [hx, Option.bind_some]
    · simp at h
def seg_transomref09_Check_5 (g : S_transomref09_Check_5) : Seg where
  path := [4, 1, 0, 1, 1, 1, 1, 1, 1]
  prep := []
  keep := [1, 6]
  F := fun tvs blks {β} K => match tvs, blks with
    | [.v (.one (.ptr 0 0)), .v (.one (.d (.int .i64) x0))], [some (.box [(.d .str x1), (.d (.int .i64) x2), (.d (.sl (.pair .str (.pair (.int .i64) (.pair .bool (.pair (.pair (.int .i64) (.pair (.int .i64) (.pair (.int .u64) (.pair .str .unit)))) .unit))))) x3)])] => (g x0 x1 x2 x3).bind fun r => K ⟨.v (.one (.d (.int .i64) r)), []⟩
    | _, _ => none
  legit := fun tvs blks K r h => by
    split at h
    · obtain ⟨x, hx, hk⟩ := Option.bind_eq_some_iff.1 h
      refine ⟨_, ?_, hk⟩
      simp only [hx, Option.bind_some]
    · simp at h
noncomputable def env_transomref09_Check (g54 : G_transomref08_Check) (g55 : G_transomref09_CheckCol) (g56 : G_transomref08_Unlike) (g57 : G_transomref09_Names) (s0 : S_transomref09_Check_0) (s1 : S_transomref09_Check_1) (s2 : S_transomref09_Check_2) (s3 : S_transomref09_Check_3) (s4 : S_transomref09_Check_4) (s5 : S_transomref09_Check_5) : FEnv := { P := Go.Proofs.Tryz.prog, ct := fun m => if m = 54 then some (ct_transomref08_Check g54) else if m = 55 then some (ct_transomref09_CheckCol g55) else if m = 56 then some (ct_transomref08_Unlike g56) else if m = 57 then some (ct_transomref09_Names g57) else none, N := 72, body := Go.Proofs.Tryz.f28.body.getD .skip, rvs := [.tmp 2], rts := [3], nin := 0, rmv := [], segs := [seg_transomref09_Check_0 s0, seg_transomref09_Check_1 s1, seg_transomref09_Check_2 s2, seg_transomref09_Check_3 s3, seg_transomref09_Check_4 s4, seg_transomref09_Check_5 s5] }
def transomref09_Check.c {β : Type} (g54 : G_transomref08_Check) (g55 : G_transomref09_CheckCol) (g56 : G_transomref08_Unlike) (g57 : G_transomref09_Names) (s0 : S_transomref09_Check_0) (s1 : S_transomref09_Check_1) (s2 : S_transomref09_Check_2) (s3 : S_transomref09_Check_3) (s4 : S_transomref09_Check_4) (s5 : S_transomref09_Check_5) (a0 : ByteArray) (a1 : Int) (a2 : List D_api_Col) (ret : Int → Option β) : Option β := ((g54 a0).bind fun r0 => (bif (r0 != (0 : Int)) then (ret (r0)) else (bif (decide (((List.length a2) : Int) < (1 : Int))) then ((s0 true a0 a1 a2).bind ret) else ((s0 (decide (((List.length a2) : Int) > (8 : Int))) a0 a1 a2).bind ret))))
def transomref09_Check.s0c {β : Type} (g54 : G_transomref08_Check) (g55 : G_transomref09_CheckCol) (g56 : G_transomref08_Unlike) (g57 : G_transomref09_Names) (s0 : S_transomref09_Check_0) (s1 : S_transomref09_Check_1) (s2 : S_transomref09_Check_2) (s3 : S_transomref09_Check_3) (s4 : S_transomref09_Check_4) (s5 : S_transomref09_Check_5) (x0 : Bool) (x1 : ByteArray) (x2 : Int) (x3 : List D_api_Col) (ret : Int → Option β) : Option β := (bif x0 then (ret ((2 : Int))) else ((s1 x1 x2 x3).bind ret))
def transomref09_Check.s1c {β : Type} (g54 : G_transomref08_Check) (g55 : G_transomref09_CheckCol) (g56 : G_transomref08_Unlike) (g57 : G_transomref09_Names) (s0 : S_transomref09_Check_0) (s1 : S_transomref09_Check_1) (s2 : S_transomref09_Check_2) (s3 : S_transomref09_Check_3) (s4 : S_transomref09_Check_4) (s5 : S_transomref09_Check_5) (x0 : ByteArray) (x1 : Int) (x2 : List D_api_Col) (ret : Int → Option β) : Option β := (bif (decide (x1 < (1 : Int))) then ((s2 true x0 x1 x2).bind ret) else (bif (decide (x1 > (3 : Int))) then ((s2 true x0 x1 x2).bind ret) else ((s2 (decide (x1 > ((List.length x2) : Int))) x0 x1 x2).bind ret)))
def transomref09_Check.s2c {β : Type} (g54 : G_transomref08_Check) (g55 : G_transomref09_CheckCol) (g56 : G_transomref08_Unlike) (g57 : G_transomref09_Names) (s0 : S_transomref09_Check_0) (s1 : S_transomref09_Check_1) (s2 : S_transomref09_Check_2) (s3 : S_transomref09_Check_3) (s4 : S_transomref09_Check_4) (s5 : S_transomref09_Check_5) (x0 : Bool) (x1 : ByteArray) (x2 : Int) (x3 : List D_api_Col) (ret : Int → Option β) : Option β := (bif x0 then (ret ((1 : Int))) else ((s3 x1 x2 x3).bind ret))
def transomref09_Check.s3c {β : Type} (g54 : G_transomref08_Check) (g55 : G_transomref09_CheckCol) (g56 : G_transomref08_Unlike) (g57 : G_transomref09_Names) (s0 : S_transomref09_Check_0) (s1 : S_transomref09_Check_1) (s2 : S_transomref09_Check_2) (s3 : S_transomref09_Check_3) (s4 : S_transomref09_Check_4) (s5 : S_transomref09_Check_5) (x0 : ByteArray) (x1 : Int) (x2 : List D_api_Col) (ret : Int → Option β) : Option β := ((s4 (0 : Int) x0 x1 x2).bind ret)
def transomref09_Check.s4c {β : Type} (g54 : G_transomref08_Check) (g55 : G_transomref09_CheckCol) (g56 : G_transomref08_Unlike) (g57 : G_transomref09_Names) (s0 : S_transomref09_Check_0) (s1 : S_transomref09_Check_1) (s2 : S_transomref09_Check_2) (s3 : S_transomref09_Check_3) (s4 : S_transomref09_Check_4) (s5 : S_transomref09_Check_5) (x0 : Int) (x1 : ByteArray) (x2 : Int) (x3 : List D_api_Col) (ret : Int → Option β) : Option β := (bif (decide (x0 < ((List.length x3) : Int))) then (bif ((decide ((0 : Int) ≤ x0)) && (decide (x0 < ((List.length x3) : Int)))) then ((g55 (elem T_api_Col x3 x0).1 (elem T_api_Col x3 x0).2.1 (elem T_api_Col x3 x0).2.2.1 (elem T_api_Col x3 x0).2.2.2.1.1 (elem T_api_Col x3 x0).2.2.2.1.2.1 (elem T_api_Col x3 x0).2.2.2.1.2.2.1 (elem T_api_Col x3 x0).2.2.2.1.2.2.2.1).bind fun r0 => (bif (r0 != (0 : Int)) then (ret (r0)) else ((s4 (IntKind.wrap IntKind.i64 (x0 + (1 : Int))) x1 x2 x3).bind ret))) else none) else ((g57 x3).bind fun r1 => ((g56 r1).bind fun r2 => (bif (!r2) then (ret ((12 : Int))) else ((s5 (0 : Int) x1 x2 x3).bind ret)))))
def transomref09_Check.s5c {β : Type} (g54 : G_transomref08_Check) (g55 : G_transomref09_CheckCol) (g56 : G_transomref08_Unlike) (g57 : G_transomref09_Names) (s0 : S_transomref09_Check_0) (s1 : S_transomref09_Check_1) (s2 : S_transomref09_Check_2) (s3 : S_transomref09_Check_3) (s4 : S_transomref09_Check_4) (s5 : S_transomref09_Check_5) (x0 : Int) (x1 : ByteArray) (x2 : Int) (x3 : List D_api_Col) (ret : Int → Option β) : Option β := (bif (decide (x0 < x2)) then (bif ((decide ((0 : Int) ≤ x0)) && (decide (x0 < ((List.length x3) : Int)))) then (bif (elem T_api_Col x3 x0).2.2.1 then (ret ((11 : Int))) else ((s5 (IntKind.wrap IntKind.i64 (x0 + (1 : Int))) x1 x2 x3).bind ret)) else none) else (ret ((0 : Int))))
theorem transomref09_Check.c_bind {β : Type} {g54 : G_transomref08_Check} {g55 : G_transomref09_CheckCol} {g56 : G_transomref08_Unlike} {g57 : G_transomref09_Names} {s0 : S_transomref09_Check_0} {s1 : S_transomref09_Check_1} {s2 : S_transomref09_Check_2} {s3 : S_transomref09_Check_3} {s4 : S_transomref09_Check_4} {s5 : S_transomref09_Check_5} {a0 : ByteArray} {a1 : Int} {a2 : List D_api_Col} {ret : Int → Option β} : transomref09_Check.c g54 g55 g56 g57 s0 s1 s2 s3 s4 s5 a0 a1 a2 ret = (transomref09_Check.c g54 g55 g56 g57 s0 s1 s2 s3 s4 s5 a0 a1 a2 some).bind ret := by
  simp only [transomref09_Check.c, bif_bind, sum_bind, Option.bind_assoc, Option.bind_some, Option.bind_none, Option.bind_fun_some]
theorem transomref09_Check.s0c_bind {β : Type} {g54 : G_transomref08_Check} {g55 : G_transomref09_CheckCol} {g56 : G_transomref08_Unlike} {g57 : G_transomref09_Names} {s0 : S_transomref09_Check_0} {s1 : S_transomref09_Check_1} {s2 : S_transomref09_Check_2} {s3 : S_transomref09_Check_3} {s4 : S_transomref09_Check_4} {s5 : S_transomref09_Check_5} {x0 : Bool} {x1 : ByteArray} {x2 : Int} {x3 : List D_api_Col} {ret : Int → Option β} : transomref09_Check.s0c g54 g55 g56 g57 s0 s1 s2 s3 s4 s5 x0 x1 x2 x3 ret = (transomref09_Check.s0c g54 g55 g56 g57 s0 s1 s2 s3 s4 s5 x0 x1 x2 x3 some).bind ret := by
  simp only [transomref09_Check.s0c, bif_bind, sum_bind, Option.bind_assoc, Option.bind_some, Option.bind_none, Option.bind_fun_some]
theorem transomref09_Check.s1c_bind {β : Type} {g54 : G_transomref08_Check} {g55 : G_transomref09_CheckCol} {g56 : G_transomref08_Unlike} {g57 : G_transomref09_Names} {s0 : S_transomref09_Check_0} {s1 : S_transomref09_Check_1} {s2 : S_transomref09_Check_2} {s3 : S_transomref09_Check_3} {s4 : S_transomref09_Check_4} {s5 : S_transomref09_Check_5} {x0 : ByteArray} {x1 : Int} {x2 : List D_api_Col} {ret : Int → Option β} : transomref09_Check.s1c g54 g55 g56 g57 s0 s1 s2 s3 s4 s5 x0 x1 x2 ret = (transomref09_Check.s1c g54 g55 g56 g57 s0 s1 s2 s3 s4 s5 x0 x1 x2 some).bind ret := by
  simp only [transomref09_Check.s1c, bif_bind, sum_bind, Option.bind_assoc, Option.bind_some, Option.bind_none, Option.bind_fun_some]
theorem transomref09_Check.s2c_bind {β : Type} {g54 : G_transomref08_Check} {g55 : G_transomref09_CheckCol} {g56 : G_transomref08_Unlike} {g57 : G_transomref09_Names} {s0 : S_transomref09_Check_0} {s1 : S_transomref09_Check_1} {s2 : S_transomref09_Check_2} {s3 : S_transomref09_Check_3} {s4 : S_transomref09_Check_4} {s5 : S_transomref09_Check_5} {x0 : Bool} {x1 : ByteArray} {x2 : Int} {x3 : List D_api_Col} {ret : Int → Option β} : transomref09_Check.s2c g54 g55 g56 g57 s0 s1 s2 s3 s4 s5 x0 x1 x2 x3 ret = (transomref09_Check.s2c g54 g55 g56 g57 s0 s1 s2 s3 s4 s5 x0 x1 x2 x3 some).bind ret := by
  simp only [transomref09_Check.s2c, bif_bind, sum_bind, Option.bind_assoc, Option.bind_some, Option.bind_none, Option.bind_fun_some]
theorem transomref09_Check.s3c_bind {β : Type} {g54 : G_transomref08_Check} {g55 : G_transomref09_CheckCol} {g56 : G_transomref08_Unlike} {g57 : G_transomref09_Names} {s0 : S_transomref09_Check_0} {s1 : S_transomref09_Check_1} {s2 : S_transomref09_Check_2} {s3 : S_transomref09_Check_3} {s4 : S_transomref09_Check_4} {s5 : S_transomref09_Check_5} {x0 : ByteArray} {x1 : Int} {x2 : List D_api_Col} {ret : Int → Option β} : transomref09_Check.s3c g54 g55 g56 g57 s0 s1 s2 s3 s4 s5 x0 x1 x2 ret = (transomref09_Check.s3c g54 g55 g56 g57 s0 s1 s2 s3 s4 s5 x0 x1 x2 some).bind ret := by
  simp only [transomref09_Check.s3c, bif_bind, sum_bind, Option.bind_assoc, Option.bind_some, Option.bind_none, Option.bind_fun_some]
theorem transomref09_Check.s4c_bind {β : Type} {g54 : G_transomref08_Check} {g55 : G_transomref09_CheckCol} {g56 : G_transomref08_Unlike} {g57 : G_transomref09_Names} {s0 : S_transomref09_Check_0} {s1 : S_transomref09_Check_1} {s2 : S_transomref09_Check_2} {s3 : S_transomref09_Check_3} {s4 : S_transomref09_Check_4} {s5 : S_transomref09_Check_5} {x0 : Int} {x1 : ByteArray} {x2 : Int} {x3 : List D_api_Col} {ret : Int → Option β} : transomref09_Check.s4c g54 g55 g56 g57 s0 s1 s2 s3 s4 s5 x0 x1 x2 x3 ret = (transomref09_Check.s4c g54 g55 g56 g57 s0 s1 s2 s3 s4 s5 x0 x1 x2 x3 some).bind ret := by
  simp only [transomref09_Check.s4c, bif_bind, sum_bind, Option.bind_assoc, Option.bind_some, Option.bind_none, Option.bind_fun_some]
theorem transomref09_Check.s5c_bind {β : Type} {g54 : G_transomref08_Check} {g55 : G_transomref09_CheckCol} {g56 : G_transomref08_Unlike} {g57 : G_transomref09_Names} {s0 : S_transomref09_Check_0} {s1 : S_transomref09_Check_1} {s2 : S_transomref09_Check_2} {s3 : S_transomref09_Check_3} {s4 : S_transomref09_Check_4} {s5 : S_transomref09_Check_5} {x0 : Int} {x1 : ByteArray} {x2 : Int} {x3 : List D_api_Col} {ret : Int → Option β} : transomref09_Check.s5c g54 g55 g56 g57 s0 s1 s2 s3 s4 s5 x0 x1 x2 x3 ret = (transomref09_Check.s5c g54 g55 g56 g57 s0 s1 s2 s3 s4 s5 x0 x1 x2 x3 some).bind ret := by
  simp only [transomref09_Check.s5c, bif_bind, sum_bind, Option.bind_assoc, Option.bind_some, Option.bind_none, Option.bind_fun_some]
theorem transomref09_Check.ev {g54 : G_transomref08_Check} {g55 : G_transomref09_CheckCol} {g56 : G_transomref08_Unlike} {g57 : G_transomref09_Names} {s0 : S_transomref09_Check_0} {s1 : S_transomref09_Check_1} {s2 : S_transomref09_Check_2} {s3 : S_transomref09_Check_3} {s4 : S_transomref09_Check_4} {s5 : S_transomref09_Check_5} {a0 : ByteArray} {a1 : Int} {a2 : List D_api_Col} : evAt (env_transomref09_Check g54 g55 g56 g57 s0 s1 s2 s3 s4 s5) [] [0] [.v (.agg [(.d .str a0), (.d (.int .i64) a1), (.d (.sl T_api_Col) a2)])] [] some = transomref09_Check.c g54 g55 g56 g57 s0 s1 s2 s3 s4 s5 a0 a1 a2 (fun r => some ⟨.v (.one (.d (.int .i64) r)), []⟩) := by
  kernel_rfl
theorem transomref09_Check.s0_ev {g54 : G_transomref08_Check} {g55 : G_transomref09_CheckCol} {g56 : G_transomref08_Unlike} {g57 : G_transomref09_Names} {s0 : S_transomref09_Check_0} {s1 : S_transomref09_Check_1} {s2 : S_transomref09_Check_2} {s3 : S_transomref09_Check_3} {s4 : S_transomref09_Check_4} {s5 : S_transomref09_Check_5} {x0 : Bool} {x1 : ByteArray} {x2 : Int} {x3 : List D_api_Col} : evAt (env_transomref09_Check g54 g55 g56 g57 s0 s1 s2 s3 s4 s5) [1, 0, 1, 1] [1, 22] [.v (.one (.ptr 0 0)), .v (.one (.d .bool x0))] [some (.box [(.d .str x1), (.d (.int .i64) x2), (.d (.sl T_api_Col) x3)])] some = transomref09_Check.s0c g54 g55 g56 g57 s0 s1 s2 s3 s4 s5 x0 x1 x2 x3 (fun r => some ⟨.v (.one (.d (.int .i64) r)), []⟩) := by
  kernel_rfl
theorem transomref09_Check.s1_ev {g54 : G_transomref08_Check} {g55 : G_transomref09_CheckCol} {g56 : G_transomref08_Unlike} {g57 : G_transomref09_Names} {s0 : S_transomref09_Check_0} {s1 : S_transomref09_Check_1} {s2 : S_transomref09_Check_2} {s3 : S_transomref09_Check_3} {s4 : S_transomref09_Check_4} {s5 : S_transomref09_Check_5} {x0 : ByteArray} {x1 : Int} {x2 : List D_api_Col} : evAt (env_transomref09_Check g54 g55 g56 g57 s0 s1 s2 s3 s4 s5) [1, 1, 1] [1] [.v (.one (.ptr 0 0))] [some (.box [(.d .str x0), (.d (.int .i64) x1), (.d (.sl T_api_Col) x2)])] some = transomref09_Check.s1c g54 g55 g56 g57 s0 s1 s2 s3 s4 s5 x0 x1 x2 (fun r => some ⟨.v (.one (.d (.int .i64) r)), []⟩) := by
  kernel_rfl
theorem transomref09_Check.s2_ev {g54 : G_transomref08_Check} {g55 : G_transomref09_CheckCol} {g56 : G_transomref08_Unlike} {g57 : G_transomref09_Names} {s0 : S_transomref09_Check_0} {s1 : S_transomref09_Check_1} {s2 : S_transomref09_Check_2} {s3 : S_transomref09_Check_3} {s4 : S_transomref09_Check_4} {s5 : S_transomref09_Check_5} {x0 : Bool} {x1 : ByteArray} {x2 : Int} {x3 : List D_api_Col} : evAt (env_transomref09_Check g54 g55 g56 g57 s0 s1 s2 s3 s4 s5) [1, 0, 1, 1, 1] [1, 38] [.v (.one (.ptr 0 0)), .v (.one (.d .bool x0))] [some (.box [(.d .str x1), (.d (.int .i64) x2), (.d (.sl T_api_Col) x3)])] some = transomref09_Check.s2c g54 g55 g56 g57 s0 s1 s2 s3 s4 s5 x0 x1 x2 x3 (fun r => some ⟨.v (.one (.d (.int .i64) r)), []⟩) := by
  kernel_rfl
theorem transomref09_Check.s3_ev {g54 : G_transomref08_Check} {g55 : G_transomref09_CheckCol} {g56 : G_transomref08_Unlike} {g57 : G_transomref09_Names} {s0 : S_transomref09_Check_0} {s1 : S_transomref09_Check_1} {s2 : S_transomref09_Check_2} {s3 : S_transomref09_Check_3} {s4 : S_transomref09_Check_4} {s5 : S_transomref09_Check_5} {x0 : ByteArray} {x1 : Int} {x2 : List D_api_Col} : evAt (env_transomref09_Check g54 g55 g56 g57 s0 s1 s2 s3 s4 s5) [1, 1, 1, 1] [1] [.v (.one (.ptr 0 0))] [some (.box [(.d .str x0), (.d (.int .i64) x1), (.d (.sl T_api_Col) x2)])] some = transomref09_Check.s3c g54 g55 g56 g57 s0 s1 s2 s3 s4 s5 x0 x1 x2 (fun r => some ⟨.v (.one (.d (.int .i64) r)), []⟩) := by
  kernel_rfl
theorem transomref09_Check.s4_ev {g54 : G_transomref08_Check} {g55 : G_transomref09_CheckCol} {g56 : G_transomref08_Unlike} {g57 : G_transomref09_Names} {s0 : S_transomref09_Check_0} {s1 : S_transomref09_Check_1} {s2 : S_transomref09_Check_2} {s3 : S_transomref09_Check_3} {s4 : S_transomref09_Check_4} {s5 : S_transomref09_Check_5} {x0 : Int} {x1 : ByteArray} {x2 : Int} {x3 : List D_api_Col} : evAt (env_transomref09_Check g54 g55 g56 g57 s0 s1 s2 s3 s4 s5) [4, 1, 0, 1, 1, 1, 1] [1, 4] [.v (.one (.ptr 0 0)), .v (.one (.d (.int .i64) x0))] [some (.box [(.d .str x1), (.d (.int .i64) x2), (.d (.sl T_api_Col) x3)])] some = transomref09_Check.s4c g54 g55 g56 g57 s0 s1 s2 s3 s4 s5 x0 x1 x2 x3 (fun r => some ⟨.v (.one (.d (.int .i64) r)), []⟩) := by
  kernel_rfl
theorem transomref09_Check.s5_ev {g54 : G_transomref08_Check} {g55 : G_transomref09_CheckCol} {g56 : G_transomref08_Unlike} {g57 : G_transomref09_Names} {s0 : S_transomref09_Check_0} {s1 : S_transomref09_Check_1} {s2 : S_transomref09_Check_2} {s3 : S_transomref09_Check_3} {s4 : S_transomref09_Check_4} {s5 : S_transomref09_Check_5} {x0 : Int} {x1 : ByteArray} {x2 : Int} {x3 : List D_api_Col} : evAt (env_transomref09_Check g54 g55 g56 g57 s0 s1 s2 s3 s4 s5) [4, 1, 0, 1, 1, 1, 1, 1, 1] [1, 6] [.v (.one (.ptr 0 0)), .v (.one (.d (.int .i64) x0))] [some (.box [(.d .str x1), (.d (.int .i64) x2), (.d (.sl T_api_Col) x3)])] some = transomref09_Check.s5c g54 g55 g56 g57 s0 s1 s2 s3 s4 s5 x0 x1 x2 x3 (fun r => some ⟨.v (.one (.d (.int .i64) r)), []⟩) := by
  kernel_rfl
mutual
def transomref09_Check.s0 : Nat → Bool → ByteArray → Int → (List D_api_Col) → Option Int
  | 0, _, _, _, _ => none
  | k + 1, x0, x1, x2, x3 => transomref09_Check.s0c (transomref08_Check.f k) (transomref09_CheckCol.f k) (transomref08_Unlike.f k) (transomref09_Names.f k) (transomref09_Check.s0 k) (transomref09_Check.s1 k) (transomref09_Check.s2 k) (transomref09_Check.s3 k) (transomref09_Check.s4 k) (transomref09_Check.s5 k) x0 x1 x2 x3 some
def transomref09_Check.s1 : Nat → ByteArray → Int → (List D_api_Col) → Option Int
  | 0, _, _, _ => none
  | k + 1, x0, x1, x2 => transomref09_Check.s1c (transomref08_Check.f k) (transomref09_CheckCol.f k) (transomref08_Unlike.f k) (transomref09_Names.f k) (transomref09_Check.s0 k) (transomref09_Check.s1 k) (transomref09_Check.s2 k) (transomref09_Check.s3 k) (transomref09_Check.s4 k) (transomref09_Check.s5 k) x0 x1 x2 some
def transomref09_Check.s2 : Nat → Bool → ByteArray → Int → (List D_api_Col) → Option Int
  | 0, _, _, _, _ => none
  | k + 1, x0, x1, x2, x3 => transomref09_Check.s2c (transomref08_Check.f k) (transomref09_CheckCol.f k) (transomref08_Unlike.f k) (transomref09_Names.f k) (transomref09_Check.s0 k) (transomref09_Check.s1 k) (transomref09_Check.s2 k) (transomref09_Check.s3 k) (transomref09_Check.s4 k) (transomref09_Check.s5 k) x0 x1 x2 x3 some
def transomref09_Check.s3 : Nat → ByteArray → Int → (List D_api_Col) → Option Int
  | 0, _, _, _ => none
  | k + 1, x0, x1, x2 => transomref09_Check.s3c (transomref08_Check.f k) (transomref09_CheckCol.f k) (transomref08_Unlike.f k) (transomref09_Names.f k) (transomref09_Check.s0 k) (transomref09_Check.s1 k) (transomref09_Check.s2 k) (transomref09_Check.s3 k) (transomref09_Check.s4 k) (transomref09_Check.s5 k) x0 x1 x2 some
def transomref09_Check.s4 : Nat → Int → ByteArray → Int → (List D_api_Col) → Option Int
  | 0, _, _, _, _ => none
  | k + 1, x0, x1, x2, x3 => transomref09_Check.s4c (transomref08_Check.f k) (transomref09_CheckCol.f k) (transomref08_Unlike.f k) (transomref09_Names.f k) (transomref09_Check.s0 k) (transomref09_Check.s1 k) (transomref09_Check.s2 k) (transomref09_Check.s3 k) (transomref09_Check.s4 k) (transomref09_Check.s5 k) x0 x1 x2 x3 some
def transomref09_Check.s5 : Nat → Int → ByteArray → Int → (List D_api_Col) → Option Int
  | 0, _, _, _, _ => none
  | k + 1, x0, x1, x2, x3 => transomref09_Check.s5c (transomref08_Check.f k) (transomref09_CheckCol.f k) (transomref08_Unlike.f k) (transomref09_Names.f k) (transomref09_Check.s0 k) (transomref09_Check.s1 k) (transomref09_Check.s2 k) (transomref09_Check.s3 k) (transomref09_Check.s4 k) (transomref09_Check.s5 k) x0 x1 x2 x3 some
end
def transomref09_Check.f (k : Nat) (a0 : ByteArray) (a1 : Int) (a2 : List D_api_Col) : Option Int := transomref09_Check.c (transomref08_Check.f k) (transomref09_CheckCol.f k) (transomref08_Unlike.f k) (transomref09_Names.f k) (transomref09_Check.s0 k) (transomref09_Check.s1 k) (transomref09_Check.s2 k) (transomref09_Check.s3 k) (transomref09_Check.s4 k) (transomref09_Check.s5 k) a0 a1 a2 some
theorem transomref09_Check.is {g54 : G_transomref08_Check} {g55 : G_transomref09_CheckCol} {g56 : G_transomref08_Unlike} {g57 : G_transomref09_Names} {s0 : S_transomref09_Check_0} {s1 : S_transomref09_Check_1} {s2 : S_transomref09_Check_2} {s3 : S_transomref09_Check_3} {s4 : S_transomref09_Check_4} {s5 : S_transomref09_Check_5} : FnIs (env_transomref09_Check g54 g55 g56 g57 s0 s1 s2 s3 s4 s5) 28 Go.Proofs.Tryz.f28 := ⟨Go.Proofs.Tryz.func28, rfl, rfl, rfl, by decide⟩
theorem transomref09_Check.envok {g54 : G_transomref08_Check} {g55 : G_transomref09_CheckCol} {g56 : G_transomref08_Unlike} {g57 : G_transomref09_Names} {s0 : S_transomref09_Check_0} {s1 : S_transomref09_Check_1} {s2 : S_transomref09_Check_2} {s3 : S_transomref09_Check_3} {s4 : S_transomref09_Check_4} {s5 : S_transomref09_Check_5} (h54 : CtOK Go.Proofs.Tryz.prog 54 (ct_transomref08_Check g54)) (h55 : CtOK Go.Proofs.Tryz.prog 55 (ct_transomref09_CheckCol g55)) (h56 : CtOK Go.Proofs.Tryz.prog 56 (ct_transomref08_Unlike g56)) (h57 : CtOK Go.Proofs.Tryz.prog 57 (ct_transomref09_Names g57)) : EnvOK (env_transomref09_Check g54 g55 g56 g57 s0 s1 s2 s3 s4 s5).toEnv := by
  intro f c h
  simp only [env_transomref09_Check] at h
  split at h
  · rename_i e; subst e; cases h; exact h54
  split at h
  · rename_i e; subst e; cases h; exact h55
  split at h
  · rename_i e; subst e; cases h; exact h56
  split at h
  · rename_i e; subst e; cases h; exact h57
  simp at h
noncomputable abbrev transomref09_Check.E (k : Nat) : FEnv := env_transomref09_Check (transomref08_Check.f k) (transomref09_CheckCol.f k) (transomref08_Unlike.f k) (transomref09_Names.f k) (transomref09_Check.s0 k) (transomref09_Check.s1 k) (transomref09_Check.s2 k) (transomref09_Check.s3 k) (transomref09_Check.s4 k) (transomref09_Check.s5 k)
theorem transomref09_Check.hE (k : Nat) : EnvOK (transomref09_Check.E k).toEnv := transomref09_Check.envok (transomref08_Check.ok k) (transomref09_CheckCol.ok k) (transomref08_Unlike.ok k) (transomref09_Names.ok k)
theorem transomref09_Check.segs_ok : ∀ k, ∀ s ∈ (transomref09_Check.E k).segs, SegOK (transomref09_Check.E k) Go.Proofs.Tryz.f28 s
  | 0 => by
    intro s hs
    simp only [transomref09_Check.E, env_transomref09_Check, List.mem_cons, List.not_mem_nil, or_false] at hs
    rcases hs with rfl | rfl | rfl | rfl | rfl | rfl
    · intro tvs blks res h; exfalso; simp only [seg_transomref09_Check_0] at h; split at h <;> simp [transomref09_Check.s0] at h
    · intro tvs blks res h; exfalso; simp only [seg_transomref09_Check_1] at h; split at h <;> simp [transomref09_Check.s1] at h
    · intro tvs blks res h; exfalso; simp only [seg_transomref09_Check_2] at h; split at h <;> simp [transomref09_Check.s2] at h
    · intro tvs blks res h; exfalso; simp only [seg_transomref09_Check_3] at h; split at h <;> simp [transomref09_Check.s3] at h
    · intro tvs blks res h; exfalso; simp only [seg_transomref09_Check_4] at h; split at h <;> simp [transomref09_Check.s4] at h
    · intro tvs blks res h; exfalso; simp only [seg_transomref09_Check_5] at h; split at h <;> simp [transomref09_Check.s5] at h
  | k + 1 => by
    intro s hs
    simp only [transomref09_Check.E, env_transomref09_Check, List.mem_cons, List.not_mem_nil, or_false] at hs
    rcases hs with rfl | rfl | rfl | rfl | rfl | rfl
    · refine seg_of_ev (E := transomref09_Check.E k) (transomref09_Check.hE k) ⟨transomref09_Check.is.rvs⟩ (transomref09_Check.segs_ok k) ?_
      intro tvs blks res h
      simp only [seg_transomref09_Check_0] at h
      split at h
      · exact (transomref09_Check.s0_ev.trans transomref09_Check.s0c_bind).trans h
      · simp at h
    · refine seg_of_ev (E := transomref09_Check.E k) (transomref09_Check.hE k) ⟨transomref09_Check.is.rvs⟩ (transomref09_Check.segs_ok k) ?_
      intro tvs blks res h
      simp only [seg_transomref09_Check_1] at h
      split at h
      · exact (transomref09_Check.s1_ev.trans transomref09_Check.s1c_bind).trans h
      · simp at h
    · refine seg_of_ev (E := transomref09_Check.E k) (transomref09_Check.hE k) ⟨transomref09_Check.is.rvs⟩ (transomref09_Check.segs_ok k) ?_
      intro tvs blks res h
      simp only [seg_transomref09_Check_2] at h
      split at h
      · exact (transomref09_Check.s2_ev.trans transomref09_Check.s2c_bind).trans h
      · simp at h
    · refine seg_of_ev (E := transomref09_Check.E k) (transomref09_Check.hE k) ⟨transomref09_Check.is.rvs⟩ (transomref09_Check.segs_ok k) ?_
      intro tvs blks res h
      simp only [seg_transomref09_Check_3] at h
      split at h
      · exact (transomref09_Check.s3_ev.trans transomref09_Check.s3c_bind).trans h
      · simp at h
    · refine seg_of_ev (E := transomref09_Check.E k) (transomref09_Check.hE k) ⟨transomref09_Check.is.rvs⟩ (transomref09_Check.segs_ok k) ?_
      intro tvs blks res h
      simp only [seg_transomref09_Check_4] at h
      split at h
      · exact (transomref09_Check.s4_ev.trans transomref09_Check.s4c_bind).trans h
      · simp at h
    · refine seg_of_ev (E := transomref09_Check.E k) (transomref09_Check.hE k) ⟨transomref09_Check.is.rvs⟩ (transomref09_Check.segs_ok k) ?_
      intro tvs blks res h
      simp only [seg_transomref09_Check_5] at h
      split at h
      · exact (transomref09_Check.s5_ev.trans transomref09_Check.s5c_bind).trans h
      · simp at h
theorem transomref09_Check.ok (k : Nat) : CtOK Go.Proofs.Tryz.prog 28 (ct_transomref09_Check (transomref09_Check.f k)) := by
  refine ct_of_ev (E := transomref09_Check.E k) transomref09_Check.is (transomref09_Check.hE k) (transomref09_Check.segs_ok k) rfl ?_
  intro tvs blks res h
  simp only [ct_transomref09_Check] at h
  split at h
  · exact (transomref09_Check.ev.trans transomref09_Check.c_bind).trans h
  · simp at h
end Go.Proofs.YtddlebbjaadbeaaGreatDoor.Aev
