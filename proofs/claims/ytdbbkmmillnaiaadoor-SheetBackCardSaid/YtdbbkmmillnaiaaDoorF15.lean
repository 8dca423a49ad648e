/- By a program of this session (AEV): functions of the program as plain functions, and that the machine does what they say. -/
import Derived.Test.YtdbbkmmillnaiaaDoorTys
import Derived.Test.YtdbbkmmillnaiaaDoorProg
import Derived.Laws.Externs
import Derived.Lib.Bytealg
import Derived.Test.YtdbbkmmillnaiaaDoorF10
import Derived.Test.YtdbbkmmillnaiaaDoorF11
namespace Go.Proofs.YtdbbkmmillnaiaaDoor.Aev
set_option linter.unusedVariables false
set_option linter.unusedSimpArgs false
set_option maxRecDepth 100000
set_option maxHeartbeats 4000000
open Go Go.Proofs.Tryd
namespace transomref09_SameCol
abbrev G : Type := ByteArray → Int → Bool → Int → Int → Int → ByteArray → ByteArray → Int → Bool → Int → Int → Int → ByteArray → Option Bool
def ct (g : G) : Ct where
  nin := 0
  mv := []
  F := fun tvs blks {β} K => match tvs, blks with
    | [.v (.agg [(.d .str a0), (.d (.int .i64) a1), (.d .bool a2), (.d (.int .i64) a3), (.d (.int .i64) a4), (.d (.int .u64) a5), (.d .str a6)]), .v (.agg [(.d .str a7), (.d (.int .i64) a8), (.d .bool a9), (.d (.int .i64) a10), (.d (.int .i64) a11), (.d (.int .u64) a12), (.d .str a13)])], [] => (g a0 a1 a2 a3 a4 a5 a6 a7 a8 a9 a10 a11 a12 a13).bind fun r => K ⟨.v (.one (.d .bool r)), []⟩
    | _, _ => none
  legit := fun _ _ K _ h => by split at h; exact (legit1 K h :); simp at h
noncomputable def env (g54 : transomref04_Same.G)  : FEnv := { P := prog, ct := fun m => if m = 54 then some (transomref04_Same.ct g54) else none, N := 31, body := f68.body.getD .skip, rvs := [.tmp 4], rts := [4], nin := 0, rmv := [], segs := [] }
def c {β : Type} (g54 : transomref04_Same.G)  (a0 : ByteArray) (a1 : Int) (a2 : Bool) (a3 : Int) (a4 : Int) (a5 : Int) (a6 : ByteArray) (a7 : ByteArray) (a8 : Int) (a9 : Bool) (a10 : Int) (a11 : Int) (a12 : Int) (a13 : ByteArray) (ret : Bool → Option β) : Option β := (bif ((ByteArray.toList a0) == (ByteArray.toList a7)) then (bif (a1 == a8) then (bif (a2 == a9) then ((g54 a3 a4 a5 a6 a10 a11 a12 a13).bind fun r0 => (ret (r0))) else (ret (false))) else (ret (false))) else (ret (false)))
theorem c_bind {β : Type} {g54 : transomref04_Same.G}  {a0 : ByteArray} {a1 : Int} {a2 : Bool} {a3 : Int} {a4 : Int} {a5 : Int} {a6 : ByteArray} {a7 : ByteArray} {a8 : Int} {a9 : Bool} {a10 : Int} {a11 : Int} {a12 : Int} {a13 : ByteArray} {ret : Bool → Option β} : c g54  a0 a1 a2 a3 a4 a5 a6 a7 a8 a9 a10 a11 a12 a13 ret = (c g54  a0 a1 a2 a3 a4 a5 a6 a7 a8 a9 a10 a11 a12 a13 some).bind ret := by
  simp only [c, bif_bind, sum_bind, oa, os, on, ofs]
theorem ev {g54 : transomref04_Same.G}  {a0 : ByteArray} {a1 : Int} {a2 : Bool} {a3 : Int} {a4 : Int} {a5 : Int} {a6 : ByteArray} {a7 : ByteArray} {a8 : Int} {a9 : Bool} {a10 : Int} {a11 : Int} {a12 : Int} {a13 : ByteArray} : evAt (env g54 ) [] [0, 1] [.v (.agg [(.d .str a0), (.d (.int .i64) a1), (.d .bool a2), (.d (.int .i64) a3), (.d (.int .i64) a4), (.d (.int .u64) a5), (.d .str a6)]), .v (.agg [(.d .str a7), (.d (.int .i64) a8), (.d .bool a9), (.d (.int .i64) a10), (.d (.int .i64) a11), (.d (.int .u64) a12), (.d .str a13)])] [] some = c g54  a0 a1 a2 a3 a4 a5 a6 a7 a8 a9 a10 a11 a12 a13 (fun r => some ⟨.v (.one (.d .bool r)), []⟩) := by
  kernel_rfl
def f (k : Nat) (a0 : ByteArray) (a1 : Int) (a2 : Bool) (a3 : Int) (a4 : Int) (a5 : Int) (a6 : ByteArray) (a7 : ByteArray) (a8 : Int) (a9 : Bool) (a10 : Int) (a11 : Int) (a12 : Int) (a13 : ByteArray) : Option Bool := c (transomref04_Same.f k)  a0 a1 a2 a3 a4 a5 a6 a7 a8 a9 a10 a11 a12 a13 some
theorem is {g54 : transomref04_Same.G}  : FnIs (env g54 ) 68 f68 := ⟨func68, rfl, rfl, rfl, by decide⟩
theorem envok {g54 : transomref04_Same.G}  (h54 : CtOK prog 54 (transomref04_Same.ct g54)) : EnvOK (env g54 ).toEnv := by
  intro f c h
  simp only [env] at h
  split at h
  · rename_i e; subst e; cases h; exact h54
  simp at h
noncomputable abbrev E (k : Nat) : FEnv := env (transomref04_Same.f k) 
theorem hE (k : Nat) : EnvOK (E k).toEnv := envok (transomref04_Same.ok k)
theorem ok (k : Nat) : CtOK prog 68 (ct (f k)) := by
  refine ct_of_ev (E := E k) is (hE k) (fun s hs => by simp [E, env] at hs) rfl ?_
  intro tvs blks res h
  simp only [ct] at h
  split at h
  · exact (ev.trans c_bind).trans h
  · simp at h
end transomref09_SameCol
namespace transomref09_SameCols
abbrev G : Type := (List D_api_Col) → (List D_api_Col) → Option Bool
def ct (g : G) : Ct where
  nin := 0
  mv := []
  F := fun tvs blks {β} K => match tvs, blks with
    | [.v (.one (.d (.sl (.pair .str (.pair (.int .i64) (.pair .bool (.pair (.pair (.int .i64) (.pair (.int .i64) (.pair (.int .u64) (.pair .str .unit)))) .unit))))) a0)), .v (.one (.d (.sl (.pair .str (.pair (.int .i64) (.pair .bool (.pair (.pair (.int .i64) (.pair (.int .i64) (.pair (.int .u64) (.pair .str .unit)))) .unit))))) a1))], [] => (g a0 a1).bind fun r => K ⟨.v (.one (.d .bool r)), []⟩
    | _, _ => none
  legit := fun _ _ K _ h => by split at h; exact (legit1 K h :); simp at h
abbrev S0 : Type := (List D_api_Col) → (List D_api_Col) → Int → Option Bool
def sg0 (g : S0) : Seg where
  path := [4, 1, 0, 1, 1]
  prep := []
  keep := [0, 1, 5]
  F := fun tvs blks {β} K => match tvs, blks with
    | [.v (.one (.d (.sl (.pair .str (.pair (.int .i64) (.pair .bool (.pair (.pair (.int .i64) (.pair (.int .i64) (.pair (.int .u64) (.pair .str .unit)))) .unit))))) x0)), .v (.one (.d (.sl (.pair .str (.pair (.int .i64) (.pair .bool (.pair (.pair (.int .i64) (.pair (.int .i64) (.pair (.int .u64) (.pair .str .unit)))) .unit))))) x1)), .v (.one (.d (.int .i64) x2))], [] => (g x0 x1 x2).bind fun r => K ⟨.v (.one (.d .bool r)), []⟩
    | _, _ => none
  legit := fun _ _ K _ h => by split at h; exact (legit1 K h :); simp at h
noncomputable def env (g68 : transomref09_SameCol.G) (s0 : S0) : FEnv := { P := prog, ct := fun m => if m = 68 then some (transomref09_SameCol.ct g68) else none, N := 27, body := f50.body.getD .skip, rvs := [.tmp 4], rts := [4], nin := 0, rmv := [], segs := [sg0 s0] }
def c {β : Type} (g68 : transomref09_SameCol.G) (s0 : S0) (a0 : List D_api_Col) (a1 : List D_api_Col) (ret : Bool → Option β) : Option β := (bif (((List.length a0) : Int) != ((List.length a1) : Int)) then (ret (false)) else ((s0 a0 a1 (0 : Int)).bind ret))
def s0c {β : Type} (g68 : transomref09_SameCol.G) (s0 : S0) (x0 : List D_api_Col) (x1 : List D_api_Col) (x2 : Int) (ret : Bool → Option β) : Option β := (bif (decide (x2 < ((List.length x0) : Int))) then (bif ((decide ((0 : Int) ≤ x2)) && (decide (x2 < ((List.length x0) : Int)))) then (bif ((decide ((0 : Int) ≤ x2)) && (decide (x2 < ((List.length x1) : Int)))) then ((g68 (elem T_api_Col x0 x2).1 (elem T_api_Col x0 x2).2.1 (elem T_api_Col x0 x2).2.2.1 (elem T_api_Col x0 x2).2.2.2.1.1 (elem T_api_Col x0 x2).2.2.2.1.2.1 (elem T_api_Col x0 x2).2.2.2.1.2.2.1 (elem T_api_Col x0 x2).2.2.2.1.2.2.2.1 (elem T_api_Col x1 x2).1 (elem T_api_Col x1 x2).2.1 (elem T_api_Col x1 x2).2.2.1 (elem T_api_Col x1 x2).2.2.2.1.1 (elem T_api_Col x1 x2).2.2.2.1.2.1 (elem T_api_Col x1 x2).2.2.2.1.2.2.1 (elem T_api_Col x1 x2).2.2.2.1.2.2.2.1).bind fun r0 => (bif (!r0) then (ret (false)) else ((s0 x0 x1 (IntKind.wrap IntKind.i64 (x2 + (1 : Int)))).bind ret))) else none) else none) else (ret (true)))
theorem c_bind {β : Type} {g68 : transomref09_SameCol.G} {s0 : S0} {a0 : List D_api_Col} {a1 : List D_api_Col} {ret : Bool → Option β} : c g68 s0 a0 a1 ret = (c g68 s0 a0 a1 some).bind ret := by
  simp only [c, bif_bind, sum_bind, oa, os, on, ofs]
theorem s0c_bind {β : Type} {g68 : transomref09_SameCol.G} {s0 : S0} {x0 : List D_api_Col} {x1 : List D_api_Col} {x2 : Int} {ret : Bool → Option β} : s0c g68 s0 x0 x1 x2 ret = (s0c g68 s0 x0 x1 x2 some).bind ret := by
  simp only [s0c, bif_bind, sum_bind, oa, os, on, ofs]
theorem ev {g68 : transomref09_SameCol.G} {s0 : S0} {a0 : List D_api_Col} {a1 : List D_api_Col} : evAt (env g68 s0) [] [0, 1] [.v (.one (.d (.sl T_api_Col) a0)), .v (.one (.d (.sl T_api_Col) a1))] [] some = c g68 s0 a0 a1 (fun r => some ⟨.v (.one (.d .bool r)), []⟩) := by
  kernel_rfl
theorem s0_ev {g68 : transomref09_SameCol.G} {s0 : S0} {x0 : List D_api_Col} {x1 : List D_api_Col} {x2 : Int} : evAt (env g68 s0) [4, 1, 0, 1, 1] [0, 1, 5] [.v (.one (.d (.sl T_api_Col) x0)), .v (.one (.d (.sl T_api_Col) x1)), .v (.one (.d (.int .i64) x2))] [] some = s0c g68 s0 x0 x1 x2 (fun r => some ⟨.v (.one (.d .bool r)), []⟩) := by
  kernel_rfl
def s0 : Nat → (List D_api_Col) → (List D_api_Col) → Int → Option Bool
  | 0, _, _, _ => none
  | k + 1, x0, x1, x2 => s0c (transomref09_SameCol.f k) (s0 k) x0 x1 x2 some
def f (k : Nat) (a0 : List D_api_Col) (a1 : List D_api_Col) : Option Bool := c (transomref09_SameCol.f k) (s0 k) a0 a1 some
theorem is {g68 : transomref09_SameCol.G} {s0 : S0} : FnIs (env g68 s0) 50 f50 := ⟨func50, rfl, rfl, rfl, by decide⟩
theorem envok {g68 : transomref09_SameCol.G} {s0 : S0} (h68 : CtOK prog 68 (transomref09_SameCol.ct g68)) : EnvOK (env g68 s0).toEnv := by
  intro f c h
  simp only [env] at h
  split at h
  · rename_i e; subst e; cases h; exact h68
  simp at h
noncomputable abbrev E (k : Nat) : FEnv := env (transomref09_SameCol.f k) (s0 k)
theorem hE (k : Nat) : EnvOK (E k).toEnv := envok (transomref09_SameCol.ok k)
theorem segs_ok : ∀ k, ∀ s ∈ (E k).segs, SegOK (E k) f50 s
  | 0 => by
    intro s hs
    simp only [E, env, List.mem_cons, List.not_mem_nil, or_false] at hs
    rcases hs with rfl
    · intro tvs blks res h; exfalso; simp only [sg0] at h; split at h <;> simp [s0] at h
  | k + 1 => by
    intro s hs
    simp only [E, env, List.mem_cons, List.not_mem_nil, or_false] at hs
    rcases hs with rfl
    · refine seg_of_ev (E := E k) (hE k) ⟨is.rvs⟩ (segs_ok k) ?_
      intro tvs blks res h
      simp only [sg0] at h
      split at h
      · exact (s0_ev.trans s0c_bind).trans h
      · simp at h
theorem ok (k : Nat) : CtOK prog 50 (ct (f k)) := by
  refine ct_of_ev (E := E k) is (hE k) (segs_ok k) rfl ?_
  intro tvs blks res h
  simp only [ct] at h
  split at h
  · exact (ev.trans c_bind).trans h
  · simp at h
end transomref09_SameCols
namespace transomref09_Same
abbrev G : Type := ByteArray → Int → (List D_api_Col) → ByteArray → Int → (List D_api_Col) → Option Bool
def ct (g : G) : Ct where
  nin := 0
  mv := []
  F := fun tvs blks {β} K => match tvs, blks with
    | [.v (.agg [(.d .str a0), (.d (.int .i64) a1), (.d (.sl (.pair .str (.pair (.int .i64) (.pair .bool (.pair (.pair (.int .i64) (.pair (.int .i64) (.pair (.int .u64) (.pair .str .unit)))) .unit))))) a2)]), .v (.agg [(.d .str a3), (.d (.int .i64) a4), (.d (.sl (.pair .str (.pair (.int .i64) (.pair .bool (.pair (.pair (.int .i64) (.pair (.int .i64) (.pair (.int .u64) (.pair .str .unit)))) .unit))))) a5)])], [] => (g a0 a1 a2 a3 a4 a5).bind fun r => K ⟨.v (.one (.d .bool r)), []⟩
    | _, _ => none
  legit := fun _ _ K _ h => by split at h; exact (legit1 K h :); simp at h
noncomputable def env (g50 : transomref09_SameCols.G)  : FEnv := { P := prog, ct := fun m => if m = 50 then some (transomref09_SameCols.ct g50) else none, N := 24, body := f35.body.getD .skip, rvs := [.tmp 4], rts := [4], nin := 0, rmv := [], segs := [] }
def c {β : Type} (g50 : transomref09_SameCols.G)  (a0 : ByteArray) (a1 : Int) (a2 : List D_api_Col) (a3 : ByteArray) (a4 : Int) (a5 : List D_api_Col) (ret : Bool → Option β) : Option β := (bif ((ByteArray.toList a0) == (ByteArray.toList a3)) then (bif (a1 == a4) then ((g50 a2 a5).bind fun r0 => (ret (r0))) else (ret (false))) else (ret (false)))
theorem c_bind {β : Type} {g50 : transomref09_SameCols.G}  {a0 : ByteArray} {a1 : Int} {a2 : List D_api_Col} {a3 : ByteArray} {a4 : Int} {a5 : List D_api_Col} {ret : Bool → Option β} : c g50  a0 a1 a2 a3 a4 a5 ret = (c g50  a0 a1 a2 a3 a4 a5 some).bind ret := by
  simp only [c, bif_bind, sum_bind, oa, os, on, ofs]
theorem ev {g50 : transomref09_SameCols.G}  {a0 : ByteArray} {a1 : Int} {a2 : List D_api_Col} {a3 : ByteArray} {a4 : Int} {a5 : List D_api_Col} : evAt (env g50 ) [] [0, 1] [.v (.agg [(.d .str a0), (.d (.int .i64) a1), (.d (.sl T_api_Col) a2)]), .v (.agg [(.d .str a3), (.d (.int .i64) a4), (.d (.sl T_api_Col) a5)])] [] some = c g50  a0 a1 a2 a3 a4 a5 (fun r => some ⟨.v (.one (.d .bool r)), []⟩) := by
  kernel_rfl
def f (k : Nat) (a0 : ByteArray) (a1 : Int) (a2 : List D_api_Col) (a3 : ByteArray) (a4 : Int) (a5 : List D_api_Col) : Option Bool := c (transomref09_SameCols.f k)  a0 a1 a2 a3 a4 a5 some
theorem is {g50 : transomref09_SameCols.G}  : FnIs (env g50 ) 35 f35 := ⟨func35, rfl, rfl, rfl, by decide⟩
theorem envok {g50 : transomref09_SameCols.G}  (h50 : CtOK prog 50 (transomref09_SameCols.ct g50)) : EnvOK (env g50 ).toEnv := by
  intro f c h
  simp only [env] at h
  split at h
  · rename_i e; subst e; cases h; exact h50
  simp at h
noncomputable abbrev E (k : Nat) : FEnv := env (transomref09_SameCols.f k) 
theorem hE (k : Nat) : EnvOK (E k).toEnv := envok (transomref09_SameCols.ok k)
theorem ok (k : Nat) : CtOK prog 35 (ct (f k)) := by
  refine ct_of_ev (E := E k) is (hE k) (fun s hs => by simp [E, env] at hs) rfl ?_
  intro tvs blks res h
  simp only [ct] at h
  split at h
  · exact (ev.trans c_bind).trans h
  · simp at h
end transomref09_Same
namespace transomref12_Same
abbrev G : Type := ByteArray → Int → (List D_api_Col) → (List D_api_Line) → ByteArray → Int → (List D_api_Col) → (List D_api_Line) → Option Bool
def ct (g : G) : Ct where
  nin := 0
  mv := []
  F := fun tvs blks {β} K => match tvs, blks with
    | [.v (.agg [(.d .str a0), (.d (.int .i64) a1), (.d (.sl (.pair .str (.pair (.int .i64) (.pair .bool (.pair (.pair (.int .i64) (.pair (.int .i64) (.pair (.int .u64) (.pair .str .unit)))) .unit))))) a2), (.d (.sl (.pair .str (.pair (.sl (.pair (.int .i64) (.pair (.int .i64) (.pair (.int .u64) (.pair .str .unit))))) .unit))) a3)]), .v (.agg [(.d .str a4), (.d (.int .i64) a5), (.d (.sl (.pair .str (.pair (.int .i64) (.pair .bool (.pair (.pair (.int .i64) (.pair (.int .i64) (.pair (.int .u64) (.pair .str .unit)))) .unit))))) a6), (.d (.sl (.pair .str (.pair (.sl (.pair (.int .i64) (.pair (.int .i64) (.pair (.int .u64) (.pair .str .unit))))) .unit))) a7)])], [] => (g a0 a1 a2 a3 a4 a5 a6 a7).bind fun r => K ⟨.v (.one (.d .bool r)), []⟩
    | _, _ => none
  legit := fun _ _ K _ h => by split at h; exact (legit1 K h :); simp at h
noncomputable def env (g17 : transomref12_SameLines.G) (g35 : transomref09_Same.G)  : FEnv := { P := prog, ct := fun m => if m = 17 then some (transomref12_SameLines.ct g17) else if m = 35 then some (transomref09_Same.ct g35) else none, N := 17, body := f20.body.getD .skip, rvs := [.tmp 4], rts := [4], nin := 0, rmv := [], segs := [] }
def c {β : Type} (g17 : transomref12_SameLines.G) (g35 : transomref09_Same.G)  (a0 : ByteArray) (a1 : Int) (a2 : List D_api_Col) (a3 : List D_api_Line) (a4 : ByteArray) (a5 : Int) (a6 : List D_api_Col) (a7 : List D_api_Line) (ret : Bool → Option β) : Option β := ((g35 a0 a1 a2 a4 a5 a6).bind fun r0 => (bif r0 then ((g17 a3 a7).bind fun r1 => (ret (r1))) else (ret (false))))
theorem c_bind {β : Type} {g17 : transomref12_SameLines.G} {g35 : transomref09_Same.G}  {a0 : ByteArray} {a1 : Int} {a2 : List D_api_Col} {a3 : List D_api_Line} {a4 : ByteArray} {a5 : Int} {a6 : List D_api_Col} {a7 : List D_api_Line} {ret : Bool → Option β} : c g17 g35  a0 a1 a2 a3 a4 a5 a6 a7 ret = (c g17 g35  a0 a1 a2 a3 a4 a5 a6 a7 some).bind ret := by
  simp only [c, bif_bind, sum_bind, oa, os, on, ofs]
theorem ev {g17 : transomref12_SameLines.G} {g35 : transomref09_Same.G}  {a0 : ByteArray} {a1 : Int} {a2 : List D_api_Col} {a3 : List D_api_Line} {a4 : ByteArray} {a5 : Int} {a6 : List D_api_Col} {a7 : List D_api_Line} : evAt (env g17 g35 ) [] [0, 1] [.v (.agg [(.d .str a0), (.d (.int .i64) a1), (.d (.sl T_api_Col) a2), (.d (.sl T_api_Line) a3)]), .v (.agg [(.d .str a4), (.d (.int .i64) a5), (.d (.sl T_api_Col) a6), (.d (.sl T_api_Line) a7)])] [] some = c g17 g35  a0 a1 a2 a3 a4 a5 a6 a7 (fun r => some ⟨.v (.one (.d .bool r)), []⟩) := by
  kernel_rfl
def f (k : Nat) (a0 : ByteArray) (a1 : Int) (a2 : List D_api_Col) (a3 : List D_api_Line) (a4 : ByteArray) (a5 : Int) (a6 : List D_api_Col) (a7 : List D_api_Line) : Option Bool := c (transomref12_SameLines.f k) (transomref09_Same.f k)  a0 a1 a2 a3 a4 a5 a6 a7 some
theorem is {g17 : transomref12_SameLines.G} {g35 : transomref09_Same.G}  : FnIs (env g17 g35 ) 20 f20 := ⟨func20, rfl, rfl, rfl, by decide⟩
theorem envok {g17 : transomref12_SameLines.G} {g35 : transomref09_Same.G}  (h17 : CtOK prog 17 (transomref12_SameLines.ct g17)) (h35 : CtOK prog 35 (transomref09_Same.ct g35)) : EnvOK (env g17 g35 ).toEnv := by
  intro f c h
  simp only [env] at h
  split at h
  · rename_i e; subst e; cases h; exact h17
  split at h
  · rename_i e; subst e; cases h; exact h35
  simp at h
noncomputable abbrev E (k : Nat) : FEnv := env (transomref12_SameLines.f k) (transomref09_Same.f k) 
theorem hE (k : Nat) : EnvOK (E k).toEnv := envok (transomref12_SameLines.ok k) (transomref09_Same.ok k)
theorem ok (k : Nat) : CtOK prog 20 (ct (f k)) := by
  refine ct_of_ev (E := E k) is (hE k) (fun s hs => by simp [E, env] at hs) rfl ?_
  intro tvs blks res h
  simp only [ct] at h
  split at h
  · exact (ev.trans c_bind).trans h
  · simp at h
end transomref12_Same
end Go.Proofs.YtdbbkmmillnaiaaDoor.Aev
