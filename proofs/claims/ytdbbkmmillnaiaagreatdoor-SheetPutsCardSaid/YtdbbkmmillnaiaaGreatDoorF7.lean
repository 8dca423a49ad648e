/- By a program of this session (AEV): functions of the program as plain functions, and that the machine does what they say. -/
import Derived.Test.YtdbbkmmillnaiaaGreatDoorTys
import Derived.Test.YtdbbkmmillnaiaaGreatDoorProg
import Derived.Laws.Externs
import Derived.Lib.Bytealg
import Derived.Test.YtdbbkmmillnaiaaGreatDoorF6
namespace Go.Proofs.YtdbbkmmillnaiaaGreatDoor.Aev
set_option linter.unusedVariables false
set_option linter.unusedSimpArgs false
set_option maxRecDepth 100000
set_option maxHeartbeats 4000000
open Go Go.Proofs.Tryz
namespace bytealg_CompareString
abbrev G : Type := ByteArray → ByteArray → Option Int
def ct (g : G) : Ct where
  nin := 0
  mv := []
  F := fun tvs blks {β} K => match tvs, blks with
    | [.v (.one (.d .str a0)), .v (.one (.d .str a1))], [] => (g a0 a1).bind fun r => K ⟨.v (.one (.d (.int .i64) r)), []⟩
    | _, _ => none
  legit := fun _ _ K _ h => by split at h; exact (legit1 K h :); simp at h
noncomputable def env (g63 : ByteArray → ByteArray → Option Int)  : FEnv := { P := prog, ct := fun m => if m = 63 then some (bytealg_abigen_runtime_cmpstring.ct g63) else none, N := 8, body := f44.body.getD .skip, rvs := [.tmp 4], rts := [3], nin := 0, rmv := [], segs := [] }
def c {β : Type} (g63 : ByteArray → ByteArray → Option Int)  (a0 : ByteArray) (a1 : ByteArray) (ret : Int → Option β) : Option β := ((g63 a0 a1).bind fun r0 => (ret (r0)))
theorem c_bind {β : Type} {g63 : ByteArray → ByteArray → Option Int}  {a0 : ByteArray} {a1 : ByteArray} {ret : Int → Option β} : c g63  a0 a1 ret = (c g63  a0 a1 some).bind ret := by
  simp only [c, bif_bind, sum_bind, oa, os, on, ofs]
theorem ev {g63 : ByteArray → ByteArray → Option Int}  {a0 : ByteArray} {a1 : ByteArray} : evAt (env g63 ) [] [0, 1] [.v (.one (.d .str a0)), .v (.one (.d .str a1))] [] some = c g63  a0 a1 (fun r => some ⟨.v (.one (.d (.int .i64) r)), []⟩) := by
  kernel_rfl
def f (k : Nat) (a0 : ByteArray) (a1 : ByteArray) : Option Int := c (bytealg_abigen_runtime_cmpstring.f k)  a0 a1 some
theorem is {g63 : ByteArray → ByteArray → Option Int}  : FnIs (env g63 ) 44 f44 := ⟨func44, rfl, rfl, rfl, by decide⟩
theorem envok {g63 : ByteArray → ByteArray → Option Int}  (h63 : CtOK prog 63 (bytealg_abigen_runtime_cmpstring.ct g63)) : EnvOK (env g63 ).toEnv := by
  intro f c h
  simp only [env] at h
  split at h
  · rename_i e; subst e; cases h; exact h63
  simp at h
noncomputable abbrev E (k : Nat) : FEnv := env (bytealg_abigen_runtime_cmpstring.f k) 
theorem hE (k : Nat) : EnvOK (E k).toEnv := envok (bytealg_abigen_runtime_cmpstring.ok k)
theorem ok (k : Nat) : CtOK prog 44 (ct (f k)) := by
  refine ct_of_ev (E := E k) is (hE k) (fun s hs => by simp [E, env] at hs) rfl ?_
  intro tvs blks res h
  simp only [ct] at h
  split at h
  · exact (ev.trans c_bind).trans h
  · simp at h
end bytealg_CompareString
namespace strings_Compare
abbrev G : Type := ByteArray → ByteArray → Option Int
def ct (g : G) : Ct where
  nin := 0
  mv := []
  F := fun tvs blks {β} K => match tvs, blks with
    | [.v (.one (.d .str a0)), .v (.one (.d .str a1))], [] => (g a0 a1).bind fun r => K ⟨.v (.one (.d (.int .i64) r)), []⟩
    | _, _ => none
  legit := fun _ _ K _ h => by split at h; exact (legit1 K h :); simp at h
noncomputable def env (g44 : bytealg_CompareString.G)  : FEnv := { P := prog, ct := fun m => if m = 44 then some (bytealg_CompareString.ct g44) else none, N := 8, body := f34.body.getD .skip, rvs := [.tmp 4], rts := [3], nin := 0, rmv := [], segs := [] }
def c {β : Type} (g44 : bytealg_CompareString.G)  (a0 : ByteArray) (a1 : ByteArray) (ret : Int → Option β) : Option β := ((g44 a0 a1).bind fun r0 => (ret (r0)))
theorem c_bind {β : Type} {g44 : bytealg_CompareString.G}  {a0 : ByteArray} {a1 : ByteArray} {ret : Int → Option β} : c g44  a0 a1 ret = (c g44  a0 a1 some).bind ret := by
  simp only [c, bif_bind, sum_bind, oa, os, on, ofs]
theorem ev {g44 : bytealg_CompareString.G}  {a0 : ByteArray} {a1 : ByteArray} : evAt (env g44 ) [] [0, 1] [.v (.one (.d .str a0)), .v (.one (.d .str a1))] [] some = c g44  a0 a1 (fun r => some ⟨.v (.one (.d (.int .i64) r)), []⟩) := by
  kernel_rfl
def f (k : Nat) (a0 : ByteArray) (a1 : ByteArray) : Option Int := c (bytealg_CompareString.f k)  a0 a1 some
theorem is {g44 : bytealg_CompareString.G}  : FnIs (env g44 ) 34 f34 := ⟨func34, rfl, rfl, rfl, by decide⟩
theorem envok {g44 : bytealg_CompareString.G}  (h44 : CtOK prog 44 (bytealg_CompareString.ct g44)) : EnvOK (env g44 ).toEnv := by
  intro f c h
  simp only [env] at h
  split at h
  · rename_i e; subst e; cases h; exact h44
  simp at h
noncomputable abbrev E (k : Nat) : FEnv := env (bytealg_CompareString.f k) 
theorem hE (k : Nat) : EnvOK (E k).toEnv := envok (bytealg_CompareString.ok k)
theorem ok (k : Nat) : CtOK prog 34 (ct (f k)) := by
  refine ct_of_ev (E := E k) is (hE k) (fun s hs => by simp [E, env] at hs) rfl ?_
  intro tvs blks res h
  simp only [ct] at h
  split at h
  · exact (ev.trans c_bind).trans h
  · simp at h
end strings_Compare
namespace sheet_at_1
abbrev G : Type := ByteArray → (List D_api_Value) → ByteArray → Option Int
def ct (g : G) : Ct where
  nin := 0
  mv := []
  F := fun tvs blks {β} K => match tvs, blks with
    | [.v (.agg [(.d .str a0), (.d (.sl (.pair (.int .i64) (.pair (.int .i64) (.pair (.int .u64) (.pair .str .unit))))) a1)]), .v (.one (.d .str a2))], [] => (g a0 a1 a2).bind fun r => K ⟨.v (.one (.d (.int .i64) r)), []⟩
    | _, _ => none
  legit := fun _ _ K _ h => by split at h; exact (legit1 K h :); simp at h
noncomputable def env (g34 : strings_Compare.G)  : FEnv := { P := prog, ct := fun m => if m = 34 then some (strings_Compare.ct g34) else none, N := 9, body := f33.body.getD .skip, rvs := [.tmp 4], rts := [3], nin := 0, rmv := [], segs := [] }
def c {β : Type} (g34 : strings_Compare.G)  (a0 : ByteArray) (a1 : List D_api_Value) (a2 : ByteArray) (ret : Int → Option β) : Option β := ((g34 a0 a2).bind fun r0 => (ret (r0)))
theorem c_bind {β : Type} {g34 : strings_Compare.G}  {a0 : ByteArray} {a1 : List D_api_Value} {a2 : ByteArray} {ret : Int → Option β} : c g34  a0 a1 a2 ret = (c g34  a0 a1 a2 some).bind ret := by
  simp only [c, bif_bind, sum_bind, oa, os, on, ofs]
theorem ev {g34 : strings_Compare.G}  {a0 : ByteArray} {a1 : List D_api_Value} {a2 : ByteArray} : evAt (env g34 ) [] [0, 1] [.v (.agg [(.d .str a0), (.d (.sl T_api_Value) a1)]), .v (.one (.d .str a2))] [] some = c g34  a0 a1 a2 (fun r => some ⟨.v (.one (.d (.int .i64) r)), []⟩) := by
  kernel_rfl
def f (k : Nat) (a0 : ByteArray) (a1 : List D_api_Value) (a2 : ByteArray) : Option Int := c (strings_Compare.f k)  a0 a1 a2 some
theorem is {g34 : strings_Compare.G}  : FnIs (env g34 ) 33 f33 := ⟨func33, rfl, rfl, rfl, by decide⟩
theorem envok {g34 : strings_Compare.G}  (h34 : CtOK prog 34 (strings_Compare.ct g34)) : EnvOK (env g34 ).toEnv := by
  intro f c h
  simp only [env] at h
  split at h
  · rename_i e; subst e; cases h; exact h34
  simp at h
noncomputable abbrev E (k : Nat) : FEnv := env (strings_Compare.f k) 
theorem hE (k : Nat) : EnvOK (E k).toEnv := envok (strings_Compare.ok k)
theorem ok (k : Nat) : CtOK prog 33 (ct (f k)) := by
  refine ct_of_ev (E := E k) is (hE k) (fun s hs => by simp [E, env] at hs) rfl ?_
  intro tvs blks res h
  simp only [ct] at h
  split at h
  · exact (ev.trans c_bind).trans h
  · simp at h
end sheet_at_1
namespace api_Line_string
abbrev G : Type := (List D_api_Line) → ByteArray → Option (Int × Bool)
def ct (g : G) : Ct where
  nin := 0
  mv := []
  F := fun tvs blks {β} K => match tvs, blks with
    | [.v (.one (.d (.sl (.pair .str (.pair (.sl (.pair (.int .i64) (.pair (.int .i64) (.pair (.int .u64) (.pair .str .unit))))) .unit))) a0)), .v (.one (.d .str a1)), .v (.one (.fn 33 []))], [] => (g a0 a1).bind fun r => K ⟨.tup [(.one (.d (.int .i64) r.1)), (.one (.d .bool r.2))], []⟩
    | _, _ => none
  legit := fun _ _ K _ h => by split at h; exact (legit1 K h :); simp at h
abbrev S0 : Type := (List D_api_Line) → ByteArray → Int → Int → Int → Option (Int × Bool)
def sg0 (g : S0) : Seg where
  path := [4, 0, 1, 1, 1]
  prep := []
  keep := [0, 1, 2, 8, 9, 10]
  F := fun tvs blks {β} K => match tvs, blks with
    | [.v (.one (.d (.sl (.pair .str (.pair (.sl (.pair (.int .i64) (.pair (.int .i64) (.pair (.int .u64) (.pair .str .unit))))) .unit))) x0)), .v (.one (.d .str x1)), .v (.one (.fn 33 [])), .v (.one (.d (.int .i64) x2)), .v (.one (.d (.int .i64) x3)), .v (.one (.d (.int .i64) x4))], [] => (g x0 x1 x2 x3 x4).bind fun r => K ⟨.tup [(.one (.d (.int .i64) r.1)), (.one (.d .bool r.2))], []⟩
    | _, _ => none
  legit := fun _ _ K _ h => by split at h; exact (legit1 K h :); simp at h
noncomputable def env (g33 : sheet_at_1.G) (s0 : S0) : FEnv := { P := prog, ct := fun m => if m = 33 then some (sheet_at_1.ct g33) else none, N := 49, body := f32.body.getD .skip, rvs := [.tmp 6, .tmp 7], rts := [3, 4], nin := 0, rmv := [], segs := [sg0 s0] }
def c {β : Type} (g33 : sheet_at_1.G) (s0 : S0) (a0 : List D_api_Line) (a1 : ByteArray) (ret : (Int × Bool) → Option β) : Option β := ((s0 a0 a1 ((List.length a0) : Int) (0 : Int) ((List.length a0) : Int)).bind ret)
def s0c {β : Type} (g33 : sheet_at_1.G) (s0 : S0) (x0 : List D_api_Line) (x1 : ByteArray) (x2 : Int) (x3 : Int) (x4 : Int) (ret : (Int × Bool) → Option β) : Option β := (bif (decide (x3 < x4)) then (bif ((decide ((0 : Int) ≤ (IntKind.wrap IntKind.i64 (Int.fdiv (IntKind.wrap IntKind.u64 (IntKind.wrap IntKind.i64 (x3 + x4))) (2 : Int))))) && (decide ((IntKind.wrap IntKind.i64 (Int.fdiv (IntKind.wrap IntKind.u64 (IntKind.wrap IntKind.i64 (x3 + x4))) (2 : Int))) < ((List.length x0) : Int)))) then ((g33 (elem T_api_Line x0 (IntKind.wrap IntKind.i64 (Int.fdiv (IntKind.wrap IntKind.u64 (IntKind.wrap IntKind.i64 (x3 + x4))) (2 : Int)))).1 (elem T_api_Line x0 (IntKind.wrap IntKind.i64 (Int.fdiv (IntKind.wrap IntKind.u64 (IntKind.wrap IntKind.i64 (x3 + x4))) (2 : Int)))).2.1 x1).bind fun r0 => (bif (decide (r0 < (0 : Int))) then ((s0 x0 x1 x2 (IntKind.wrap IntKind.i64 ((IntKind.wrap IntKind.i64 (Int.fdiv (IntKind.wrap IntKind.u64 (IntKind.wrap IntKind.i64 (x3 + x4))) (2 : Int))) + (1 : Int))) x4).bind ret) else ((s0 x0 x1 x2 x3 (IntKind.wrap IntKind.i64 (Int.fdiv (IntKind.wrap IntKind.u64 (IntKind.wrap IntKind.i64 (x3 + x4))) (2 : Int)))).bind ret))) else none) else (bif (decide (x3 < x2)) then (bif ((decide ((0 : Int) ≤ x3)) && (decide (x3 < ((List.length x0) : Int)))) then ((g33 (elem T_api_Line x0 x3).1 (elem T_api_Line x0 x3).2.1 x1).bind fun r1 => (ret (x3, (r1 == (0 : Int))))) else none) else (ret (x3, false))))
theorem c_bind {β : Type} {g33 : sheet_at_1.G} {s0 : S0} {a0 : List D_api_Line} {a1 : ByteArray} {ret : (Int × Bool) → Option β} : c g33 s0 a0 a1 ret = (c g33 s0 a0 a1 some).bind ret := by
  simp only [c, bif_bind, sum_bind, oa, os, on, ofs]
theorem s0c_bind {β : Type} {g33 : sheet_at_1.G} {s0 : S0} {x0 : List D_api_Line} {x1 : ByteArray} {x2 : Int} {x3 : Int} {x4 : Int} {ret : (Int × Bool) → Option β} : s0c g33 s0 x0 x1 x2 x3 x4 ret = (s0c g33 s0 x0 x1 x2 x3 x4 some).bind ret := by
  simp only [s0c, bif_bind, sum_bind, oa, os, on, ofs]
theorem ev {g33 : sheet_at_1.G} {s0 : S0} {a0 : List D_api_Line} {a1 : ByteArray} : evAt (env g33 s0) [] [0, 1, 2] [.v (.one (.d (.sl T_api_Line) a0)), .v (.one (.d .str a1)), .v (.one (.fn 33 []))] [] some = c g33 s0 a0 a1 (fun r => some ⟨.tup [(.one (.d (.int .i64) r.1)), (.one (.d .bool r.2))], []⟩) := by
  kernel_rfl
theorem s0_ev {g33 : sheet_at_1.G} {s0 : S0} {x0 : List D_api_Line} {x1 : ByteArray} {x2 : Int} {x3 : Int} {x4 : Int} : evAt (env g33 s0) [4, 0, 1, 1, 1] [0, 1, 2, 8, 9, 10] [.v (.one (.d (.sl T_api_Line) x0)), .v (.one (.d .str x1)), .v (.one (.fn 33 [])), .v (.one (.d (.int .i64) x2)), .v (.one (.d (.int .i64) x3)), .v (.one (.d (.int .i64) x4))] [] some = s0c g33 s0 x0 x1 x2 x3 x4 (fun r => some ⟨.tup [(.one (.d (.int .i64) r.1)), (.one (.d .bool r.2))], []⟩) := by
  kernel_rfl
def s0 : Nat → (List D_api_Line) → ByteArray → Int → Int → Int → Option (Int × Bool)
  | 0, _, _, _, _, _ => none
  | k + 1, x0, x1, x2, x3, x4 => s0c (sheet_at_1.f k) (s0 k) x0 x1 x2 x3 x4 some
def f (k : Nat) (a0 : List D_api_Line) (a1 : ByteArray) : Option (Int × Bool) := c (sheet_at_1.f k) (s0 k) a0 a1 some
theorem is {g33 : sheet_at_1.G} {s0 : S0} : FnIs (env g33 s0) 32 f32 := ⟨func32, rfl, rfl, rfl, by decide⟩
theorem envok {g33 : sheet_at_1.G} {s0 : S0} (h33 : CtOK prog 33 (sheet_at_1.ct g33)) : EnvOK (env g33 s0).toEnv := by
  intro f c h
  simp only [env] at h
  split at h
  · rename_i e; subst e; cases h; exact h33
  simp at h
noncomputable abbrev E (k : Nat) : FEnv := env (sheet_at_1.f k) (s0 k)
theorem hE (k : Nat) : EnvOK (E k).toEnv := envok (sheet_at_1.ok k)
theorem segs_ok : ∀ k, ∀ s ∈ (E k).segs, SegOK (E k) f32 s
  | 0 => by
    intro s hs
    simp only [E, env, List.mem_cons, List.not_mem_nil, or_false] at hs
    rcases hs with rfl
    · intro tvs blks res h; exfalso; simp only [sg0] at h; split at h <;> simp [s0] at h
  | k + 1 => by
    intro s hs
    simp only [E, env, List.mem_cons, List.not_mem_nil, or_false] at hs
    rcases hs with rfl
    · refine seg_of_ev (E := E k) (hE k) ⟨is.rvs⟩ (segs_ok k) ?_
      intro tvs blks res h
      simp only [sg0] at h
      split at h
      · exact (s0_ev.trans s0c_bind).trans h
      · simp at h
theorem ok (k : Nat) : CtOK prog 32 (ct (f k)) := by
  refine ct_of_ev (E := E k) is (hE k) (segs_ok k) rfl ?_
  intro tvs blks res h
  simp only [ct] at h
  split at h
  · exact (ev.trans c_bind).trans h
  · simp at h
end api_Line_string
namespace sheet_at
abbrev G : Type := (List D_api_Line) → ByteArray → Option (Int × Bool)
def ct (g : G) : Ct where
  nin := 0
  mv := []
  F := fun tvs blks {β} K => match tvs, blks with
    | [.v (.one (.d (.sl (.pair .str (.pair (.sl (.pair (.int .i64) (.pair (.int .i64) (.pair (.int .u64) (.pair .str .unit))))) .unit))) a0)), .v (.one (.d .str a1))], [] => (g a0 a1).bind fun r => K ⟨.tup [(.one (.d (.int .i64) r.1)), (.one (.d .bool r.2))], []⟩
    | _, _ => none
  legit := fun _ _ K _ h => by split at h; exact (legit1 K h :); simp at h
noncomputable def env (g32 : api_Line_string.G) (g33 : sheet_at_1.G)  : FEnv := { P := prog, ct := fun m => if m = 32 then some (api_Line_string.ct g32) else if m = 33 then some (sheet_at_1.ct g33) else none, N := 11, body := f23.body.getD .skip, rvs := [.tmp 4, .tmp 5], rts := [3, 4], nin := 0, rmv := [], segs := [] }
def c {β : Type} (g32 : api_Line_string.G) (g33 : sheet_at_1.G)  (a0 : List D_api_Line) (a1 : ByteArray) (ret : (Int × Bool) → Option β) : Option β := ((g32 a0 a1).bind fun r0 => (ret (r0.1, r0.2)))
theorem c_bind {β : Type} {g32 : api_Line_string.G} {g33 : sheet_at_1.G}  {a0 : List D_api_Line} {a1 : ByteArray} {ret : (Int × Bool) → Option β} : c g32 g33  a0 a1 ret = (c g32 g33  a0 a1 some).bind ret := by
  simp only [c, bif_bind, sum_bind, oa, os, on, ofs]
theorem ev {g32 : api_Line_string.G} {g33 : sheet_at_1.G}  {a0 : List D_api_Line} {a1 : ByteArray} : evAt (env g32 g33 ) [] [0, 1] [.v (.one (.d (.sl T_api_Line) a0)), .v (.one (.d .str a1))] [] some = c g32 g33  a0 a1 (fun r => some ⟨.tup [(.one (.d (.int .i64) r.1)), (.one (.d .bool r.2))], []⟩) := by
  kernel_rfl
def f (k : Nat) (a0 : List D_api_Line) (a1 : ByteArray) : Option (Int × Bool) := c (api_Line_string.f k) (sheet_at_1.f k)  a0 a1 some
theorem is {g32 : api_Line_string.G} {g33 : sheet_at_1.G}  : FnIs (env g32 g33 ) 23 f23 := ⟨func23, rfl, rfl, rfl, by decide⟩
theorem envok {g32 : api_Line_string.G} {g33 : sheet_at_1.G}  (h32 : CtOK prog 32 (api_Line_string.ct g32)) (h33 : CtOK prog 33 (sheet_at_1.ct g33)) : EnvOK (env g32 g33 ).toEnv := by
  intro f c h
  simp only [env] at h
  split at h
  · rename_i e; subst e; cases h; exact h32
  split at h
  · rename_i e; subst e; cases h; exact h33
  simp at h
noncomputable abbrev E (k : Nat) : FEnv := env (api_Line_string.f k) (sheet_at_1.f k) 
theorem hE (k : Nat) : EnvOK (E k).toEnv := envok (api_Line_string.ok k) (sheet_at_1.ok k)
theorem ok (k : Nat) : CtOK prog 23 (ct (f k)) := by
  refine ct_of_ev (E := E k) is (hE k) (fun s hs => by simp [E, env] at hs) rfl ?_
  intro tvs blks res h
  simp only [ct] at h
  split at h
  · exact (ev.trans c_bind).trans h
  · simp at h
end sheet_at
namespace sheet_spliced
abbrev G : Type := (List D_api_Line) → Int → Int → (List D_api_Line) → Option ((List D_api_Line))
def ct (g : G) : Ct where
  nin := 0
  mv := []
  F := fun tvs blks {β} K => match tvs, blks with
    | [.v (.one (.d (.sl (.pair .str (.pair (.sl (.pair (.int .i64) (.pair (.int .i64) (.pair (.int .u64) (.pair .str .unit))))) .unit))) a0)), .v (.one (.d (.int .i64) a1)), .v (.one (.d (.int .i64) a2)), .v (.one (.d (.sl (.pair .str (.pair (.sl (.pair (.int .i64) (.pair (.int .i64) (.pair (.int .u64) (.pair .str .unit))))) .unit))) a3))], [] => (g a0 a1 a2 a3).bind fun r => K ⟨.v (.one (.d (.sl T_api_Line) r)), []⟩
    | _, _ => none
  legit := fun _ _ K _ h => by split at h; exact (legit1 K h :); simp at h
noncomputable def env   : FEnv := { P := prog, ct := fun m => none, N := 19, body := f24.body.getD .skip, rvs := [.tmp 8], rts := [25], nin := 0, rmv := [], segs := [] }
def c {β : Type}   (a0 : List D_api_Line) (a1 : Int) (a2 : Int) (a3 : List D_api_Line) (ret : ((List D_api_Line)) → Option β) : Option β := (bif ((true && (decide ((0 : Int) ≤ a1))) && (decide (a1 ≤ ((List.length a0) : Int)))) then (bif (decide (a1 = a1)) then (bif (decide ((((List.length (List.take ((Int.toNat a1) - (0 : Nat)) (List.drop (0 : Nat) a0))) + (List.length a3)) * (40 : Nat)) ≤ (35184372088832 : Nat))) then (bif (((decide ((0 : Int) ≤ a2)) && (decide (a2 ≤ ((List.length a0) : Int)))) && (decide (((List.length a0) : Int) ≤ ((List.length a0) : Int)))) then (bif (decide ((((List.length ((List.take ((Int.toNat a1) - (0 : Nat)) (List.drop (0 : Nat) a0)) ++ a3)) + (List.length (List.take ((Int.toNat ((List.length a0) : Int)) - (Int.toNat a2)) (List.drop (Int.toNat a2) a0)))) * (40 : Nat)) ≤ (35184372088832 : Nat))) then (ret ((((List.take ((Int.toNat a1) - (0 : Nat)) (List.drop (0 : Nat) a0)) ++ a3) ++ (List.take ((Int.toNat ((List.length a0) : Int)) - (Int.toNat a2)) (List.drop (Int.toNat a2) a0))))) else none) else none) else none) else none) else none)
theorem c_bind {β : Type}   {a0 : List D_api_Line} {a1 : Int} {a2 : Int} {a3 : List D_api_Line} {ret : ((List D_api_Line)) → Option β} : c   a0 a1 a2 a3 ret = (c   a0 a1 a2 a3 some).bind ret := by
  simp only [c, bif_bind, sum_bind, oa, os, on, ofs]
theorem ev   {a0 : List D_api_Line} {a1 : Int} {a2 : Int} {a3 : List D_api_Line} : evAt (env  ) [] [0, 1, 2, 3] [.v (.one (.d (.sl T_api_Line) a0)), .v (.one (.d (.int .i64) a1)), .v (.one (.d (.int .i64) a2)), .v (.one (.d (.sl T_api_Line) a3))] [] some = c   a0 a1 a2 a3 (fun r => some ⟨.v (.one (.d (.sl T_api_Line) r)), []⟩) := by
  kernel_rfl
def f (k : Nat) (a0 : List D_api_Line) (a1 : Int) (a2 : Int) (a3 : List D_api_Line) : Option ((List D_api_Line)) := c   a0 a1 a2 a3 some
theorem is   : FnIs (env  ) 24 f24 := ⟨func24, rfl, rfl, rfl, by decide⟩
theorem envok    : EnvOK (env  ).toEnv := by
  intro f c h
  simp only [env] at h
  simp at h
noncomputable abbrev E (k : Nat) : FEnv := env  
theorem hE (k : Nat) : EnvOK (E k).toEnv := envok 
theorem ok (k : Nat) : CtOK prog 24 (ct (f k)) := by
  refine ct_of_ev (E := E k) is (hE k) (fun s hs => by simp [E, env] at hs) rfl ?_
  intro tvs blks res h
  simp only [ct] at h
  split at h
  · exact (ev.trans c_bind).trans h
  · simp at h
end sheet_spliced
namespace api_Value
abbrev G : Type := (List D_api_Value) → Option ((List D_api_Value))
def ct (g : G) : Ct where
  nin := 0
  mv := []
  F := fun tvs blks {β} K => match tvs, blks with
    | [.v (.one (.d (.sl (.pair (.int .i64) (.pair (.int .i64) (.pair (.int .u64) (.pair .str .unit))))) a0))], [] => (g a0).bind fun r => K ⟨.v (.one (.d (.sl T_api_Value) r)), []⟩
    | _, _ => none
  legit := fun _ _ K _ h => by split at h; exact (legit1 K h :); simp at h
noncomputable def env   : FEnv := { P := prog, ct := fun m => none, N := 8, body := f25.body.getD .skip, rvs := [.tmp 2], rts := [28], nin := 0, rmv := [], segs := [] }
def c {β : Type}   (a0 : List D_api_Value) (ret : ((List D_api_Value)) → Option β) : Option β := (bif (decide ((1 : Nat) ≤ (List.length a0))) then (bif (decide ((((0 : Nat) + (List.length a0)) * (40 : Nat)) ≤ (35184372088832 : Nat))) then (ret (([] ++ a0))) else none) else none)
theorem c_bind {β : Type}   {a0 : List D_api_Value} {ret : ((List D_api_Value)) → Option β} : c   a0 ret = (c   a0 some).bind ret := by
  simp only [c, bif_bind, sum_bind, oa, os, on, ofs]
theorem ev   {a0 : List D_api_Value} : evAt (env  ) [] [0] [.v (.one (.d (.sl T_api_Value) a0))] [] some = c   a0 (fun r => some ⟨.v (.one (.d (.sl T_api_Value) r)), []⟩) := by
  kernel_rfl
def f (k : Nat) (a0 : List D_api_Value) : Option ((List D_api_Value)) := c   a0 some
theorem is   : FnIs (env  ) 25 f25 := ⟨func25, rfl, rfl, rfl, by decide⟩
theorem envok    : EnvOK (env  ).toEnv := by
  intro f c h
  simp only [env] at h
  simp at h
noncomputable abbrev E (k : Nat) : FEnv := env  
theorem hE (k : Nat) : EnvOK (E k).toEnv := envok 
theorem ok (k : Nat) : CtOK prog 25 (ct (f k)) := by
  refine ct_of_ev (E := E k) is (hE k) (fun s hs => by simp [E, env] at hs) rfl ?_
  intro tvs blks res h
  simp only [ct] at h
  split at h
  · exact (ev.trans c_bind).trans h
  · simp at h
end api_Value
namespace sheet_Put
abbrev G : Type := ByteArray → Int → (List D_api_Col) → (List D_api_Line) → (List D_api_Value) → Option (ByteArray × Int × (List D_api_Col) × (List D_api_Line) × Bool × Int)
def ct (g : G) : Ct where
  nin := 0
  mv := []
  F := fun tvs blks {β} K => match tvs, blks with
    | [.v (.agg [(.d .str a0), (.d (.int .i64) a1), (.d (.sl (.pair .str (.pair (.int .i64) (.pair .bool (.pair (.pair (.int .i64) (.pair (.int .i64) (.pair (.int .u64) (.pair .str .unit)))) .unit))))) a2), (.d (.sl (.pair .str (.pair (.sl (.pair (.int .i64) (.pair (.int .i64) (.pair (.int .u64) (.pair .str .unit))))) .unit))) a3)]), .v (.one (.d (.sl (.pair (.int .i64) (.pair (.int .i64) (.pair (.int .u64) (.pair .str .unit))))) a4))], [] => (g a0 a1 a2 a3 a4).bind fun r => K ⟨.tup [(.agg [(.d .str r.1), (.d (.int .i64) r.2.1), (.d (.sl T_api_Col) r.2.2.1), (.d (.sl T_api_Line) r.2.2.2.1)]), (.one (.d .bool r.2.2.2.2.1)), (.one (.d (.int .i64) r.2.2.2.2.2))], []⟩
    | _, _ => none
  legit := fun _ _ K _ h => by split at h; exact (legit1 K h :); simp at h
abbrev S0 : Type := (List D_api_Value) → ByteArray → Int → Bool → Int → ByteArray → Int → (List D_api_Col) → (List D_api_Line) → ByteArray → Int → Option (ByteArray × Int × (List D_api_Col) × (List D_api_Line) × Bool × Int)
def sg0 (g : S0) : Seg where
  path := [1, 1, 1, 1, 1, 1]
  prep := []
  keep := [1, 2, 4, 7, 9, 10, 11]
  F := fun tvs blks {β} K => match tvs, blks with
    | [.v (.one (.d (.sl (.pair (.int .i64) (.pair (.int .i64) (.pair (.int .u64) (.pair .str .unit))))) x0)), .v (.one (.ptr 0 0)), .v (.one (.ptr 1 0)), .v (.one (.d .str x1)), .v (.one (.d (.int .i64) x2)), .v (.one (.d .bool x3)), .v (.one (.d (.int .i64) x4))], [some (.box [(.d .str x5), (.d (.int .i64) x6), (.d (.sl (.pair .str (.pair (.int .i64) (.pair .bool (.pair (.pair (.int .i64) (.pair (.int .i64) (.pair (.int .u64) (.pair .str .unit)))) .unit))))) x7), (.d (.sl (.pair .str (.pair (.sl (.pair (.int .i64) (.pair (.int .i64) (.pair (.int .u64) (.pair .str .unit))))) .unit))) x8)]), some (.box [(.d .str x9), (.d (.int .i64) x10), (.raw (.slice none 0 0)), (.raw (.slice none 0 0))])] => (g x0 x1 x2 x3 x4 x5 x6 x7 x8 x9 x10).bind fun r => K ⟨.tup [(.agg [(.d .str r.1), (.d (.int .i64) r.2.1), (.d (.sl T_api_Col) r.2.2.1), (.d (.sl T_api_Line) r.2.2.2.1)]), (.one (.d .bool r.2.2.2.2.1)), (.one (.d (.int .i64) r.2.2.2.2.2))], []⟩
    | _, _ => none
  legit := fun _ _ K _ h => by split at h; exact (legit1 K h :); simp at h
noncomputable def env (g22 : schema_Key.G) (g23 : sheet_at.G) (g24 : sheet_spliced.G) (g25 : api_Value.G) (s0 : S0) : FEnv := { P := prog, ct := fun m => if m = 22 then some (schema_Key.ct g22) else if m = 23 then some (sheet_at.ct g23) else if m = 24 then some (sheet_spliced.ct g24) else if m = 25 then some (api_Value.ct g25) else none, N := 48, body := f8.body.getD .skip, rvs := [.cell 4 27, .tmp 5, .tmp 6], rts := [27, 4, 32], nin := 0, rmv := [], segs := [sg0 s0] }
def c {β : Type} (g22 : schema_Key.G) (g23 : sheet_at.G) (g24 : sheet_spliced.G) (g25 : api_Value.G) (s0 : S0) (a0 : ByteArray) (a1 : Int) (a2 : List D_api_Col) (a3 : List D_api_Line) (a4 : List D_api_Value) (ret : (ByteArray × Int × (List D_api_Col) × (List D_api_Line) × Bool × Int) → Option β) : Option β := ((g22 a0 a1 a2 a4).bind fun r0 => (bif (r0.2 != (0 : Int)) then (ret (a0, a1, a2, a3, false, r0.2)) else ((g23 a3 r0.1).bind fun r1 => (bif r1.2 then ((s0 a4 r0.1 r1.1 r1.2 (IntKind.wrap IntKind.i64 (r1.1 + (1 : Int))) a0 a1 a2 a3 (ByteArray.mk (List.toArray [])) (0 : Int)).bind ret) else ((s0 a4 r0.1 r1.1 r1.2 r1.1 a0 a1 a2 a3 (ByteArray.mk (List.toArray [])) (0 : Int)).bind ret)))))
def s0c {β : Type} (g22 : schema_Key.G) (g23 : sheet_at.G) (g24 : sheet_spliced.G) (g25 : api_Value.G) (s0 : S0) (x0 : List D_api_Value) (x1 : ByteArray) (x2 : Int) (x3 : Bool) (x4 : Int) (x5 : ByteArray) (x6 : Int) (x7 : List D_api_Col) (x8 : List D_api_Line) (x9 : ByteArray) (x10 : Int) (ret : (ByteArray × Int × (List D_api_Col) × (List D_api_Line) × Bool × Int) → Option β) : Option β := ((g25 x0).bind fun r0 => ((g24 x8 x2 x4 [(x1, (r0, ()))]).bind fun r1 => (ret (x5, x6, x7, r1, (!x3), (0 : Int)))))
theorem c_bind {β : Type} {g22 : schema_Key.G} {g23 : sheet_at.G} {g24 : sheet_spliced.G} {g25 : api_Value.G} {s0 : S0} {a0 : ByteArray} {a1 : Int} {a2 : List D_api_Col} {a3 : List D_api_Line} {a4 : List D_api_Value} {ret : (ByteArray × Int × (List D_api_Col) × (List D_api_Line) × Bool × Int) → Option β} : c g22 g23 g24 g25 s0 a0 a1 a2 a3 a4 ret = (c g22 g23 g24 g25 s0 a0 a1 a2 a3 a4 some).bind ret := by
  simp only [c, bif_bind, sum_bind, oa, os, on, ofs]
theorem s0c_bind {β : Type} {g22 : schema_Key.G} {g23 : sheet_at.G} {g24 : sheet_spliced.G} {g25 : api_Value.G} {s0 : S0} {x0 : List D_api_Value} {x1 : ByteArray} {x2 : Int} {x3 : Bool} {x4 : Int} {x5 : ByteArray} {x6 : Int} {x7 : List D_api_Col} {x8 : List D_api_Line} {x9 : ByteArray} {x10 : Int} {ret : (ByteArray × Int × (List D_api_Col) × (List D_api_Line) × Bool × Int) → Option β} : s0c g22 g23 g24 g25 s0 x0 x1 x2 x3 x4 x5 x6 x7 x8 x9 x10 ret = (s0c g22 g23 g24 g25 s0 x0 x1 x2 x3 x4 x5 x6 x7 x8 x9 x10 some).bind ret := by
  simp only [s0c, bif_bind, sum_bind, oa, os, on, ofs]
theorem ev {g22 : schema_Key.G} {g23 : sheet_at.G} {g24 : sheet_spliced.G} {g25 : api_Value.G} {s0 : S0} {a0 : ByteArray} {a1 : Int} {a2 : List D_api_Col} {a3 : List D_api_Line} {a4 : List D_api_Value} : evAt (env g22 g23 g24 g25 s0) [] [0, 1] [.v (.agg [(.d .str a0), (.d (.int .i64) a1), (.d (.sl T_api_Col) a2), (.d (.sl T_api_Line) a3)]), .v (.one (.d (.sl T_api_Value) a4))] [] some = c g22 g23 g24 g25 s0 a0 a1 a2 a3 a4 (fun r => some ⟨.tup [(.agg [(.d .str r.1), (.d (.int .i64) r.2.1), (.d (.sl T_api_Col) r.2.2.1), (.d (.sl T_api_Line) r.2.2.2.1)]), (.one (.d .bool r.2.2.2.2.1)), (.one (.d (.int .i64) r.2.2.2.2.2))], []⟩) := by
  kernel_rfl
theorem s0_ev {g22 : schema_Key.G} {g23 : sheet_at.G} {g24 : sheet_spliced.G} {g25 : api_Value.G} {s0 : S0} {x0 : List D_api_Value} {x1 : ByteArray} {x2 : Int} {x3 : Bool} {x4 : Int} {x5 : ByteArray} {x6 : Int} {x7 : List D_api_Col} {x8 : List D_api_Line} {x9 : ByteArray} {x10 : Int} : evAt (env g22 g23 g24 g25 s0) [1, 1, 1, 1, 1, 1] [1, 2, 4, 7, 9, 10, 11] [.v (.one (.d (.sl T_api_Value) x0)), .v (.one (.ptr 0 0)), .v (.one (.ptr 1 0)), .v (.one (.d .str x1)), .v (.one (.d (.int .i64) x2)), .v (.one (.d .bool x3)), .v (.one (.d (.int .i64) x4))] [some (.box [(.d .str x5), (.d (.int .i64) x6), (.d (.sl T_api_Col) x7), (.d (.sl T_api_Line) x8)]), some (.box [(.d .str x9), (.d (.int .i64) x10), (.raw (.slice none 0 0)), (.raw (.slice none 0 0))])] some = s0c g22 g23 g24 g25 s0 x0 x1 x2 x3 x4 x5 x6 x7 x8 x9 x10 (fun r => some ⟨.tup [(.agg [(.d .str r.1), (.d (.int .i64) r.2.1), (.d (.sl T_api_Col) r.2.2.1), (.d (.sl T_api_Line) r.2.2.2.1)]), (.one (.d .bool r.2.2.2.2.1)), (.one (.d (.int .i64) r.2.2.2.2.2))], []⟩) := by
  kernel_rfl
def s0 : Nat → (List D_api_Value) → ByteArray → Int → Bool → Int → ByteArray → Int → (List D_api_Col) → (List D_api_Line) → ByteArray → Int → Option (ByteArray × Int × (List D_api_Col) × (List D_api_Line) × Bool × Int)
  | 0, _, _, _, _, _, _, _, _, _, _, _ => none
  | k + 1, x0, x1, x2, x3, x4, x5, x6, x7, x8, x9, x10 => s0c (schema_Key.f k) (sheet_at.f k) (sheet_spliced.f k) (api_Value.f k) (s0 k) x0 x1 x2 x3 x4 x5 x6 x7 x8 x9 x10 some
def f (k : Nat) (a0 : ByteArray) (a1 : Int) (a2 : List D_api_Col) (a3 : List D_api_Line) (a4 : List D_api_Value) : Option (ByteArray × Int × (List D_api_Col) × (List D_api_Line) × Bool × Int) := c (schema_Key.f k) (sheet_at.f k) (sheet_spliced.f k) (api_Value.f k) (s0 k) a0 a1 a2 a3 a4 some
theorem is {g22 : schema_Key.G} {g23 : sheet_at.G} {g24 : sheet_spliced.G} {g25 : api_Value.G} {s0 : S0} : FnIs (env g22 g23 g24 g25 s0) 8 f8 := ⟨func8, rfl, rfl, rfl, by decide⟩
theorem envok {g22 : schema_Key.G} {g23 : sheet_at.G} {g24 : sheet_spliced.G} {g25 : api_Value.G} {s0 : S0} (h22 : CtOK prog 22 (schema_Key.ct g22)) (h23 : CtOK prog 23 (sheet_at.ct g23)) (h24 : CtOK prog 24 (sheet_spliced.ct g24)) (h25 : CtOK prog 25 (api_Value.ct g25)) : EnvOK (env g22 g23 g24 g25 s0).toEnv := by
  intro f c h
  simp only [env] at h
  split at h
  · rename_i e; subst e; cases h; exact h22
  split at h
  · rename_i e; subst e; cases h; exact h23
  split at h
  · rename_i e; subst e; cases h; exact h24
  split at h
  · rename_i e; subst e; cases h; exact h25
  simp at h
noncomputable abbrev E (k : Nat) : FEnv := env (schema_Key.f k) (sheet_at.f k) (sheet_spliced.f k) (api_Value.f k) (s0 k)
theorem hE (k : Nat) : EnvOK (E k).toEnv := envok (schema_Key.ok k) (sheet_at.ok k) (sheet_spliced.ok k) (api_Value.ok k)
theorem segs_ok : ∀ k, ∀ s ∈ (E k).segs, SegOK (E k) f8 s
  | 0 => by
    intro s hs
    simp only [E, env, List.mem_cons, List.not_mem_nil, or_false] at hs
    rcases hs with rfl
    · intro tvs blks res h; exfalso; simp only [sg0] at h; split at h <;> simp [s0] at h
  | k + 1 => by
    intro s hs
    simp only [E, env, List.mem_cons, List.not_mem_nil, or_false] at hs
    rcases hs with rfl
    · refine seg_of_ev (E := E k) (hE k) ⟨is.rvs⟩ (segs_ok k) ?_
      intro tvs blks res h
      simp only [sg0] at h
      split at h
      · exact (s0_ev.trans s0c_bind).trans h
      · simp at h
theorem ok (k : Nat) : CtOK prog 8 (ct (f k)) := by
  refine ct_of_ev (E := E k) is (hE k) (segs_ok k) rfl ?_
  intro tvs blks res h
  simp only [ct] at h
  split at h
  · exact (ev.trans c_bind).trans h
  · simp at h
end sheet_Put
namespace sheet_Delete
abbrev G : Type := ByteArray → Int → (List D_api_Col) → (List D_api_Line) → ByteArray → Option (ByteArray × Int × (List D_api_Col) × (List D_api_Line) × Bool)
def ct (g : G) : Ct where
  nin := 0
  mv := []
  F := fun tvs blks {β} K => match tvs, blks with
    | [.v (.agg [(.d .str a0), (.d (.int .i64) a1), (.d (.sl (.pair .str (.pair (.int .i64) (.pair .bool (.pair (.pair (.int .i64) (.pair (.int .i64) (.pair (.int .u64) (.pair .str .unit)))) .unit))))) a2), (.d (.sl (.pair .str (.pair (.sl (.pair (.int .i64) (.pair (.int .i64) (.pair (.int .u64) (.pair .str .unit))))) .unit))) a3)]), .v (.one (.d .str a4))], [] => (g a0 a1 a2 a3 a4).bind fun r => K ⟨.tup [(.agg [(.d .str r.1), (.d (.int .i64) r.2.1), (.d (.sl T_api_Col) r.2.2.1), (.d (.sl T_api_Line) r.2.2.2.1)]), (.one (.d .bool r.2.2.2.2))], []⟩
    | _, _ => none
  legit := fun _ _ K _ h => by split at h; exact (legit1 K h :); simp at h
noncomputable def env (g23 : sheet_at.G) (g24 : sheet_spliced.G)  : FEnv := { P := prog, ct := fun m => if m = 23 then some (sheet_at.ct g23) else if m = 24 then some (sheet_spliced.ct g24) else none, N := 25, body := f10.body.getD .skip, rvs := [.cell 4 27, .tmp 5], rts := [27, 4], nin := 0, rmv := [], segs := [] }
def c {β : Type} (g23 : sheet_at.G) (g24 : sheet_spliced.G)  (a0 : ByteArray) (a1 : Int) (a2 : List D_api_Col) (a3 : List D_api_Line) (a4 : ByteArray) (ret : (ByteArray × Int × (List D_api_Col) × (List D_api_Line) × Bool) → Option β) : Option β := ((g23 a3 a4).bind fun r0 => (bif r0.2 then ((g24 a3 r0.1 (IntKind.wrap IntKind.i64 (r0.1 + (1 : Int))) []).bind fun r1 => (ret (a0, a1, a2, r1, r0.2))) else (ret (a0, a1, a2, a3, r0.2))))
theorem c_bind {β : Type} {g23 : sheet_at.G} {g24 : sheet_spliced.G}  {a0 : ByteArray} {a1 : Int} {a2 : List D_api_Col} {a3 : List D_api_Line} {a4 : ByteArray} {ret : (ByteArray × Int × (List D_api_Col) × (List D_api_Line) × Bool) → Option β} : c g23 g24  a0 a1 a2 a3 a4 ret = (c g23 g24  a0 a1 a2 a3 a4 some).bind ret := by
  simp only [c, bif_bind, sum_bind, oa, os, on, ofs]
theorem ev {g23 : sheet_at.G} {g24 : sheet_spliced.G}  {a0 : ByteArray} {a1 : Int} {a2 : List D_api_Col} {a3 : List D_api_Line} {a4 : ByteArray} : evAt (env g23 g24 ) [] [0, 1] [.v (.agg [(.d .str a0), (.d (.int .i64) a1), (.d (.sl T_api_Col) a2), (.d (.sl T_api_Line) a3)]), .v (.one (.d .str a4))] [] some = c g23 g24  a0 a1 a2 a3 a4 (fun r => some ⟨.tup [(.agg [(.d .str r.1), (.d (.int .i64) r.2.1), (.d (.sl T_api_Col) r.2.2.1), (.d (.sl T_api_Line) r.2.2.2.1)]), (.one (.d .bool r.2.2.2.2))], []⟩) := by
  kernel_rfl
def f (k : Nat) (a0 : ByteArray) (a1 : Int) (a2 : List D_api_Col) (a3 : List D_api_Line) (a4 : ByteArray) : Option (ByteArray × Int × (List D_api_Col) × (List D_api_Line) × Bool) := c (sheet_at.f k) (sheet_spliced.f k)  a0 a1 a2 a3 a4 some
theorem is {g23 : sheet_at.G} {g24 : sheet_spliced.G}  : FnIs (env g23 g24 ) 10 f10 := ⟨func10, rfl, rfl, rfl, by decide⟩
theorem envok {g23 : sheet_at.G} {g24 : sheet_spliced.G}  (h23 : CtOK prog 23 (sheet_at.ct g23)) (h24 : CtOK prog 24 (sheet_spliced.ct g24)) : EnvOK (env g23 g24 ).toEnv := by
  intro f c h
  simp only [env] at h
  split at h
  · rename_i e; subst e; cases h; exact h23
  split at h
  · rename_i e; subst e; cases h; exact h24
  simp at h
noncomputable abbrev E (k : Nat) : FEnv := env (sheet_at.f k) (sheet_spliced.f k) 
theorem hE (k : Nat) : EnvOK (E k).toEnv := envok (sheet_at.ok k) (sheet_spliced.ok k)
theorem ok (k : Nat) : CtOK prog 10 (ct (f k)) := by
  refine ct_of_ev (E := E k) is (hE k) (fun s hs => by simp [E, env] at hs) rfl ?_
  intro tvs blks res h
  simp only [ct] at h
  split at h
  · exact (ev.trans c_bind).trans h
  · simp at h
end sheet_Delete
namespace sheet_Find
abbrev G : Type := ByteArray → Int → (List D_api_Col) → (List D_api_Line) → ByteArray → Option (Int × Bool)
def ct (g : G) : Ct where
  nin := 0
  mv := []
  F := fun tvs blks {β} K => match tvs, blks with
    | [.v (.agg [(.d .str a0), (.d (.int .i64) a1), (.d (.sl (.pair .str (.pair (.int .i64) (.pair .bool (.pair (.pair (.int .i64) (.pair (.int .i64) (.pair (.int .u64) (.pair .str .unit)))) .unit))))) a2), (.d (.sl (.pair .str (.pair (.sl (.pair (.int .i64) (.pair (.int .i64) (.pair (.int .u64) (.pair .str .unit))))) .unit))) a3)]), .v (.one (.d .str a4))], [] => (g a0 a1 a2 a3 a4).bind fun r => K ⟨.tup [(.one (.d (.int .i64) r.1)), (.one (.d .bool r.2))], []⟩
    | _, _ => none
  legit := fun _ _ K _ h => by split at h; exact (legit1 K h :); simp at h
noncomputable def env (g23 : sheet_at.G)  : FEnv := { P := prog, ct := fun m => if m = 23 then some (sheet_at.ct g23) else none, N := 12, body := f12.body.getD .skip, rvs := [.tmp 4, .tmp 5], rts := [3, 4], nin := 0, rmv := [], segs := [] }
def c {β : Type} (g23 : sheet_at.G)  (a0 : ByteArray) (a1 : Int) (a2 : List D_api_Col) (a3 : List D_api_Line) (a4 : ByteArray) (ret : (Int × Bool) → Option β) : Option β := ((g23 a3 a4).bind fun r0 => (ret (r0.1, r0.2)))
theorem c_bind {β : Type} {g23 : sheet_at.G}  {a0 : ByteArray} {a1 : Int} {a2 : List D_api_Col} {a3 : List D_api_Line} {a4 : ByteArray} {ret : (Int × Bool) → Option β} : c g23  a0 a1 a2 a3 a4 ret = (c g23  a0 a1 a2 a3 a4 some).bind ret := by
  simp only [c, bif_bind, sum_bind, oa, os, on, ofs]
theorem ev {g23 : sheet_at.G}  {a0 : ByteArray} {a1 : Int} {a2 : List D_api_Col} {a3 : List D_api_Line} {a4 : ByteArray} : evAt (env g23 ) [] [0, 1] [.v (.agg [(.d .str a0), (.d (.int .i64) a1), (.d (.sl T_api_Col) a2), (.d (.sl T_api_Line) a3)]), .v (.one (.d .str a4))] [] some = c g23  a0 a1 a2 a3 a4 (fun r => some ⟨.tup [(.one (.d (.int .i64) r.1)), (.one (.d .bool r.2))], []⟩) := by
  kernel_rfl
def f (k : Nat) (a0 : ByteArray) (a1 : Int) (a2 : List D_api_Col) (a3 : List D_api_Line) (a4 : ByteArray) : Option (Int × Bool) := c (sheet_at.f k)  a0 a1 a2 a3 a4 some
theorem is {g23 : sheet_at.G}  : FnIs (env g23 ) 12 f12 := ⟨func12, rfl, rfl, rfl, by decide⟩
theorem envok {g23 : sheet_at.G}  (h23 : CtOK prog 23 (sheet_at.ct g23)) : EnvOK (env g23 ).toEnv := by
  intro f c h
  simp only [env] at h
  split at h
  · rename_i e; subst e; cases h; exact h23
  simp at h
noncomputable abbrev E (k : Nat) : FEnv := env (sheet_at.f k) 
theorem hE (k : Nat) : EnvOK (E k).toEnv := envok (sheet_at.ok k)
theorem ok (k : Nat) : CtOK prog 12 (ct (f k)) := by
  refine ct_of_ev (E := E k) is (hE k) (fun s hs => by simp [E, env] at hs) rfl ?_
  intro tvs blks res h
  simp only [ct] at h
  split at h
  · exact (ev.trans c_bind).trans h
  · simp at h
end sheet_Find
namespace transomlaw09_Plain
abbrev G : Type := Option (ByteArray × Int × (List D_api_Col))
def ct (g : G) : Ct where
  nin := 0
  mv := []
  F := fun tvs blks {β} K => match tvs, blks with
    | [], [] => (g ).bind fun r => K ⟨.v (.agg [(.d .str r.1), (.d (.int .i64) r.2.1), (.own 0)]), [some (.own T_api_Col true r.2.2)]⟩
    | _, _ => none
  legit := fun _ _ K _ h => by split at h; exact (legit1 K h :); simp at h
noncomputable def env   : FEnv := { P := prog, ct := fun m => none, N := 5, body := f17.body.getD .skip, rvs := [.cell 0 24], rts := [24], nin := 0, rmv := [0], segs := [] }
def c {β : Type}    (ret : (ByteArray × Int × (List D_api_Col)) → Option β) : Option β := (ret ((ByteArray.mk (List.toArray [(116 : UInt8)])), (1 : Int), [((ByteArray.mk (List.toArray [(107 : UInt8)])), ((2 : Int), (false, (((0 : Int), ((0 : Int), ((0 : Int), ((ByteArray.mk (List.toArray [])), ())))), ())))), ((ByteArray.mk (List.toArray [(118 : UInt8)])), ((5 : Int), (true, (((0 : Int), ((0 : Int), ((0 : Int), ((ByteArray.mk (List.toArray [])), ())))), ()))))]))
theorem c_bind {β : Type}    {ret : (ByteArray × Int × (List D_api_Col)) → Option β} : c    ret = (c    some).bind ret := by
  simp only [c, bif_bind, sum_bind, oa, os, on, ofs]
theorem ev    : evAt (env  ) [] [] [] [] some = c    (fun r => some ⟨.v (.agg [(.d .str r.1), (.d (.int .i64) r.2.1), (.own 0)]), [some (.own T_api_Col true r.2.2)]⟩) := by
  kernel_rfl
def f (k : Nat)  : Option (ByteArray × Int × (List D_api_Col)) := c    some
theorem is   : FnIs (env  ) 17 f17 := ⟨func17, rfl, rfl, rfl, by decide⟩
theorem envok    : EnvOK (env  ).toEnv := by
  intro f c h
  simp only [env] at h
  simp at h
noncomputable abbrev E (k : Nat) : FEnv := env  
theorem hE (k : Nat) : EnvOK (E k).toEnv := envok 
theorem ok (k : Nat) : CtOK prog 17 (ct (f k)) := by
  refine ct_of_ev (E := E k) is (hE k) (fun s hs => by simp [E, env] at hs) rfl ?_
  intro tvs blks res h
  simp only [ct] at h
  split at h
  · exact (ev.trans c_bind).trans h
  · simp at h
end transomlaw09_Plain
end Go.Proofs.YtdbbkmmillnaiaaGreatDoor.Aev
