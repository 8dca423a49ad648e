/- By a program of this session (AEV): functions of the program as plain functions, and that the machine does what they say. -/
import Derived.Test.YtdbbkmmillnaiaaDoorTys
import Derived.Test.YtdbbkmmillnaiaaDoorProg
import Derived.Laws.Externs
import Derived.Lib.Bytealg
import Derived.Test.YtdbbkmmillnaiaaDoorF1
import Derived.Test.YtdbbkmmillnaiaaDoorF8
import Derived.Test.YtdbbkmmillnaiaaDoorF9
import Derived.Test.YtdbbkmmillnaiaaDoorF13
namespace Go.Proofs.YtdbbkmmillnaiaaDoor.Aev
set_option linter.unusedVariables false
set_option linter.unusedSimpArgs false
set_option maxRecDepth 100000
set_option maxHeartbeats 4000000
open Go Go.Proofs.Tryd
namespace transomlaw12_SheetRanges
abbrev G : Type := ByteArray → Int → (List D_api_Col) → (List D_api_Line) → ByteArray → ByteArray → Int → Option Bool
def ct (g : G) : Ct where
  nin := 0
  mv := []
  F := fun tvs blks {β} K => match tvs, blks with
    | [.v (.agg [(.d .str a0), (.d (.int .i64) a1), (.d (.sl (.pair .str (.pair (.int .i64) (.pair .bool (.pair (.pair (.int .i64) (.pair (.int .i64) (.pair (.int .u64) (.pair .str .unit)))) .unit))))) a2), (.d (.sl (.pair .str (.pair (.sl (.pair (.int .i64) (.pair (.int .i64) (.pair (.int .u64) (.pair .str .unit))))) .unit))) a3)]), .v (.agg [(.d .str a4), (.d .str a5), (.d (.int .i64) a6)])], [] => (g a0 a1 a2 a3 a4 a5 a6).bind fun r => K ⟨.v (.one (.d .bool r)), []⟩
    | _, _ => none
  legit := fun _ _ K _ h => by split at h; exact (legit1 K h :); simp at h
abbrev S0 : Type := Bool → ByteArray → Int → (List D_api_Col) → (List D_api_Line) → ByteArray → ByteArray → Int → Option Bool
abbrev S1 : Type := ByteArray → Int → (List D_api_Col) → (List D_api_Line) → ByteArray → ByteArray → Int → Option Bool
def sg0 (g : S0) : Seg where
  path := [1, 0, 1]
  prep := []
  keep := [2, 3, 24]
  F := fun tvs blks {β} K => match tvs, blks with
    | [.v (.one (.ptr 0 0)), .v (.one (.ptr 1 0)), .v (.one (.d .bool x0))], [some (.box [(.d .str x1), (.d (.int .i64) x2), (.d (.sl (.pair .str (.pair (.int .i64) (.pair .bool (.pair (.pair (.int .i64) (.pair (.int .i64) (.pair (.int .u64) (.pair .str .unit)))) .unit))))) x3), (.d (.sl (.pair .str (.pair (.sl (.pair (.int .i64) (.pair (.int .i64) (.pair (.int .u64) (.pair .str .unit))))) .unit))) x4)]), some (.box [(.d .str x5), (.d .str x6), (.d (.int .i64) x7)])] => (g x0 x1 x2 x3 x4 x5 x6 x7).bind fun r => K ⟨.v (.one (.d .bool r)), []⟩
    | _, _ => none
  legit := fun _ _ K _ h => by split at h; exact (legit1 K h :); simp at h
def sg1 (g : S1) : Seg where
  path := [1, 1]
  prep := []
  keep := [2, 3]
  F := fun tvs blks {β} K => match tvs, blks with
    | [.v (.one (.ptr 0 0)), .v (.one (.ptr 1 0))], [some (.box [(.d .str x0), (.d (.int .i64) x1), (.d (.sl (.pair .str (.pair (.int .i64) (.pair .bool (.pair (.pair (.int .i64) (.pair (.int .i64) (.pair (.int .u64) (.pair .str .unit)))) .unit))))) x2), (.d (.sl (.pair .str (.pair (.sl (.pair (.int .i64) (.pair (.int .i64) (.pair (.int .u64) (.pair .str .unit))))) .unit))) x3)]), some (.box [(.d .str x4), (.d .str x5), (.d (.int .i64) x6)])] => (g x0 x1 x2 x3 x4 x5 x6).bind fun r => K ⟨.v (.one (.d .bool r)), []⟩
    | _, _ => none
  legit := fun _ _ K _ h => by split at h; exact (legit1 K h :); simp at h
noncomputable def env (g7 : transomlaw12_Few.G) (g10 : transomlaw12_awake.G) (g11 : transomlaw12_Rises.G) (g12 : transomref06_All.G) (g13 : sheet_Range.G) (g14 : transomref12_Range.G) (s0 : S0) (s1 : S1) : FEnv := { P := prog, ct := fun m => if m = 7 then some (transomlaw12_Few.ct g7) else if m = 10 then some (transomlaw12_awake.ct g10) else if m = 11 then some (transomlaw12_Rises.ct g11) else if m = 12 then some (transomref06_All.ct g12) else if m = 13 then some (sheet_Range.ct g13) else if m = 14 then some (transomref12_Range.ct g14) else none, N := 46, body := f4.body.getD .skip, rvs := [.tmp 4], rts := [4], nin := 0, rmv := [], segs := [sg0 s0, sg1 s1] }
def c {β : Type} (g7 : transomlaw12_Few.G) (g10 : transomlaw12_awake.G) (g11 : transomlaw12_Rises.G) (g12 : transomref06_All.G) (g13 : sheet_Range.G) (g14 : transomref12_Range.G) (s0 : S0) (s1 : S1) (a0 : ByteArray) (a1 : Int) (a2 : List D_api_Col) (a3 : List D_api_Line) (a4 : ByteArray) (a5 : ByteArray) (a6 : Int) (ret : Bool → Option β) : Option β := ((g7 a0 a1 a2 a3).bind fun r0 => (bif (r0 == (0 : Int)) then ((s0 true a0 a1 a2 a3 a4 a5 a6).bind ret) else ((g11 a0 a1 a2 a3).bind fun r1 => (bif (r1 == (0 : Int)) then ((s0 true a0 a1 a2 a3 a4 a5 a6).bind ret) else (bif (decide (((ByteArray.size a4) : Int) > (2000 : Int))) then ((s0 true a0 a1 a2 a3 a4 a5 a6).bind ret) else ((s0 (decide (((ByteArray.size a5) : Int) > (2000 : Int))) a0 a1 a2 a3 a4 a5 a6).bind ret))))))
def s0c {β : Type} (g7 : transomlaw12_Few.G) (g10 : transomlaw12_awake.G) (g11 : transomlaw12_Rises.G) (g12 : transomref06_All.G) (g13 : sheet_Range.G) (g14 : transomref12_Range.G) (s0 : S0) (s1 : S1) (x0 : Bool) (x1 : ByteArray) (x2 : Int) (x3 : List D_api_Col) (x4 : List D_api_Line) (x5 : ByteArray) (x6 : ByteArray) (x7 : Int) (ret : Bool → Option β) : Option β := (bif x0 then (g10.bind fun r0 => (ret (r0))) else ((s1 x1 x2 x3 x4 x5 x6 x7).bind ret))
def s1c {β : Type} (g7 : transomlaw12_Few.G) (g10 : transomlaw12_awake.G) (g11 : transomlaw12_Rises.G) (g12 : transomref06_All.G) (g13 : sheet_Range.G) (g14 : transomref12_Range.G) (s0 : S0) (s1 : S1) (x0 : ByteArray) (x1 : Int) (x2 : List D_api_Col) (x3 : List D_api_Line) (x4 : ByteArray) (x5 : ByteArray) (x6 : Int) (ret : Bool → Option β) : Option β := ((g13 x0 x1 x2 x3 x4 x5 x6).bind fun r0 => ((g14 x0 x1 x2 x3 x4 x5 x6).bind fun r1 => ((g12 r0 r1).bind fun r2 => (bif r2 then (g10.bind fun r3 => (ret (r3))) else (ret (false))))))
theorem c_bind {β : Type} {g7 : transomlaw12_Few.G} {g10 : transomlaw12_awake.G} {g11 : transomlaw12_Rises.G} {g12 : transomref06_All.G} {g13 : sheet_Range.G} {g14 : transomref12_Range.G} {s0 : S0} {s1 : S1} {a0 : ByteArray} {a1 : Int} {a2 : List D_api_Col} {a3 : List D_api_Line} {a4 : ByteArray} {a5 : ByteArray} {a6 : Int} {ret : Bool → Option β} : c g7 g10 g11 g12 g13 g14 s0 s1 a0 a1 a2 a3 a4 a5 a6 ret = (c g7 g10 g11 g12 g13 g14 s0 s1 a0 a1 a2 a3 a4 a5 a6 some).bind ret := by
  simp only [c, bif_bind, sum_bind, oa, os, on, ofs]
theorem s0c_bind {β : Type} {g7 : transomlaw12_Few.G} {g10 : transomlaw12_awake.G} {g11 : transomlaw12_Rises.G} {g12 : transomref06_All.G} {g13 : sheet_Range.G} {g14 : transomref12_Range.G} {s0 : S0} {s1 : S1} {x0 : Bool} {x1 : ByteArray} {x2 : Int} {x3 : List D_api_Col} {x4 : List D_api_Line} {x5 : ByteArray} {x6 : ByteArray} {x7 : Int} {ret : Bool → Option β} : s0c g7 g10 g11 g12 g13 g14 s0 s1 x0 x1 x2 x3 x4 x5 x6 x7 ret = (s0c g7 g10 g11 g12 g13 g14 s0 s1 x0 x1 x2 x3 x4 x5 x6 x7 some).bind ret := by
  simp only [s0c, bif_bind, sum_bind, oa, os, on, ofs]
theorem s1c_bind {β : Type} {g7 : transomlaw12_Few.G} {g10 : transomlaw12_awake.G} {g11 : transomlaw12_Rises.G} {g12 : transomref06_All.G} {g13 : sheet_Range.G} {g14 : transomref12_Range.G} {s0 : S0} {s1 : S1} {x0 : ByteArray} {x1 : Int} {x2 : List D_api_Col} {x3 : List D_api_Line} {x4 : ByteArray} {x5 : ByteArray} {x6 : Int} {ret : Bool → Option β} : s1c g7 g10 g11 g12 g13 g14 s0 s1 x0 x1 x2 x3 x4 x5 x6 ret = (s1c g7 g10 g11 g12 g13 g14 s0 s1 x0 x1 x2 x3 x4 x5 x6 some).bind ret := by
  simp only [s1c, bif_bind, sum_bind, oa, os, on, ofs]
theorem ev {g7 : transomlaw12_Few.G} {g10 : transomlaw12_awake.G} {g11 : transomlaw12_Rises.G} {g12 : transomref06_All.G} {g13 : sheet_Range.G} {g14 : transomref12_Range.G} {s0 : S0} {s1 : S1} {a0 : ByteArray} {a1 : Int} {a2 : List D_api_Col} {a3 : List D_api_Line} {a4 : ByteArray} {a5 : ByteArray} {a6 : Int} : evAt (env g7 g10 g11 g12 g13 g14 s0 s1) [] [0, 1] [.v (.agg [(.d .str a0), (.d (.int .i64) a1), (.d (.sl T_api_Col) a2), (.d (.sl T_api_Line) a3)]), .v (.agg [(.d .str a4), (.d .str a5), (.d (.int .i64) a6)])] [] some = c g7 g10 g11 g12 g13 g14 s0 s1 a0 a1 a2 a3 a4 a5 a6 (fun r => some ⟨.v (.one (.d .bool r)), []⟩) := by
  kernel_rfl
theorem s0_ev {g7 : transomlaw12_Few.G} {g10 : transomlaw12_awake.G} {g11 : transomlaw12_Rises.G} {g12 : transomref06_All.G} {g13 : sheet_Range.G} {g14 : transomref12_Range.G} {s0 : S0} {s1 : S1} {x0 : Bool} {x1 : ByteArray} {x2 : Int} {x3 : List D_api_Col} {x4 : List D_api_Line} {x5 : ByteArray} {x6 : ByteArray} {x7 : Int} : evAt (env g7 g10 g11 g12 g13 g14 s0 s1) [1, 0, 1] [2, 3, 24] [.v (.one (.ptr 0 0)), .v (.one (.ptr 1 0)), .v (.one (.d .bool x0))] [some (.box [(.d .str x1), (.d (.int .i64) x2), (.d (.sl T_api_Col) x3), (.d (.sl T_api_Line) x4)]), some (.box [(.d .str x5), (.d .str x6), (.d (.int .i64) x7)])] some = s0c g7 g10 g11 g12 g13 g14 s0 s1 x0 x1 x2 x3 x4 x5 x6 x7 (fun r => some ⟨.v (.one (.d .bool r)), []⟩) := by
  kernel_rfl
theorem s1_ev {g7 : transomlaw12_Few.G} {g10 : transomlaw12_awake.G} {g11 : transomlaw12_Rises.G} {g12 : transomref06_All.G} {g13 : sheet_Range.G} {g14 : transomref12_Range.G} {s0 : S0} {s1 : S1} {x0 : ByteArray} {x1 : Int} {x2 : List D_api_Col} {x3 : List D_api_Line} {x4 : ByteArray} {x5 : ByteArray} {x6 : Int} : evAt (env g7 g10 g11 g12 g13 g14 s0 s1) [1, 1] [2, 3] [.v (.one (.ptr 0 0)), .v (.one (.ptr 1 0))] [some (.box [(.d .str x0), (.d (.int .i64) x1), (.d (.sl T_api_Col) x2), (.d (.sl T_api_Line) x3)]), some (.box [(.d .str x4), (.d .str x5), (.d (.int .i64) x6)])] some = s1c g7 g10 g11 g12 g13 g14 s0 s1 x0 x1 x2 x3 x4 x5 x6 (fun r => some ⟨.v (.one (.d .bool r)), []⟩) := by
  kernel_rfl
mutual
def s0 : Nat → Bool → ByteArray → Int → (List D_api_Col) → (List D_api_Line) → ByteArray → ByteArray → Int → Option Bool
  | 0, _, _, _, _, _, _, _, _ => none
  | k + 1, x0, x1, x2, x3, x4, x5, x6, x7 => s0c (transomlaw12_Few.f k) (transomlaw12_awake.f k) (transomlaw12_Rises.f k) (transomref06_All.f k) (sheet_Range.f k) (transomref12_Range.f k) (s0 k) (s1 k) x0 x1 x2 x3 x4 x5 x6 x7 some
def s1 : Nat → ByteArray → Int → (List D_api_Col) → (List D_api_Line) → ByteArray → ByteArray → Int → Option Bool
  | 0, _, _, _, _, _, _, _ => none
  | k + 1, x0, x1, x2, x3, x4, x5, x6 => s1c (transomlaw12_Few.f k) (transomlaw12_awake.f k) (transomlaw12_Rises.f k) (transomref06_All.f k) (sheet_Range.f k) (transomref12_Range.f k) (s0 k) (s1 k) x0 x1 x2 x3 x4 x5 x6 some
end
def f (k : Nat) (a0 : ByteArray) (a1 : Int) (a2 : List D_api_Col) (a3 : List D_api_Line) (a4 : ByteArray) (a5 : ByteArray) (a6 : Int) : Option Bool := c (transomlaw12_Few.f k) (transomlaw12_awake.f k) (transomlaw12_Rises.f k) (transomref06_All.f k) (sheet_Range.f k) (transomref12_Range.f k) (s0 k) (s1 k) a0 a1 a2 a3 a4 a5 a6 some
theorem is {g7 : transomlaw12_Few.G} {g10 : transomlaw12_awake.G} {g11 : transomlaw12_Rises.G} {g12 : transomref06_All.G} {g13 : sheet_Range.G} {g14 : transomref12_Range.G} {s0 : S0} {s1 : S1} : FnIs (env g7 g10 g11 g12 g13 g14 s0 s1) 4 f4 := ⟨func4, rfl, rfl, rfl, by decide⟩
theorem envok {g7 : transomlaw12_Few.G} {g10 : transomlaw12_awake.G} {g11 : transomlaw12_Rises.G} {g12 : transomref06_All.G} {g13 : sheet_Range.G} {g14 : transomref12_Range.G} {s0 : S0} {s1 : S1} (h7 : CtOK prog 7 (transomlaw12_Few.ct g7)) (h10 : CtOK prog 10 (transomlaw12_awake.ct g10)) (h11 : CtOK prog 11 (transomlaw12_Rises.ct g11)) (h12 : CtOK prog 12 (transomref06_All.ct g12)) (h13 : CtOK prog 13 (sheet_Range.ct g13)) (h14 : CtOK prog 14 (transomref12_Range.ct g14)) : EnvOK (env g7 g10 g11 g12 g13 g14 s0 s1).toEnv := by
  intro f c h
  simp only [env] at h
  split at h
  · rename_i e; subst e; cases h; exact h7
  split at h
  · rename_i e; subst e; cases h; exact h10
  split at h
  · rename_i e; subst e; cases h; exact h11
  split at h
  · rename_i e; subst e; cases h; exact h12
  split at h
  · rename_i e; subst e; cases h; exact h13
  split at h
  · rename_i e; subst e; cases h; exact h14
  simp at h
noncomputable abbrev E (k : Nat) : FEnv := env (transomlaw12_Few.f k) (transomlaw12_awake.f k) (transomlaw12_Rises.f k) (transomref06_All.f k) (sheet_Range.f k) (transomref12_Range.f k) (s0 k) (s1 k)
theorem hE (k : Nat) : EnvOK (E k).toEnv := envok (transomlaw12_Few.ok k) (transomlaw12_awake.ok k) (transomlaw12_Rises.ok k) (transomref06_All.ok k) (sheet_Range.ok k) (transomref12_Range.ok k)
theorem segs_ok : ∀ k, ∀ s ∈ (E k).segs, SegOK (E k) f4 s
  | 0 => by
    intro s hs
    simp only [E, env, List.mem_cons, List.not_mem_nil, or_false] at hs
    rcases hs with rfl | rfl
    · intro tvs blks res h; exfalso; simp only [sg0] at h; split at h <;> simp [s0] at h
    · intro tvs blks res h; exfalso; simp only [sg1] at h; split at h <;> simp [s1] at h
  | k + 1 => by
    intro s hs
    simp only [E, env, List.mem_cons, List.not_mem_nil, or_false] at hs
    rcases hs with rfl | rfl
    · refine seg_of_ev (E := E k) (hE k) ⟨is.rvs⟩ (segs_ok k) ?_
      intro tvs blks res h
      simp only [sg0] at h
      split at h
      · exact (s0_ev.trans s0c_bind).trans h
      · simp at h
    · refine seg_of_ev (E := E k) (hE k) ⟨is.rvs⟩ (segs_ok k) ?_
      intro tvs blks res h
      simp only [sg1] at h
      split at h
      · exact (s1_ev.trans s1c_bind).trans h
      · simp at h
theorem ok (k : Nat) : CtOK prog 4 (ct (f k)) := by
  refine ct_of_ev (E := E k) is (hE k) (segs_ok k) rfl ?_
  intro tvs blks res h
  simp only [ct] at h
  split at h
  · exact (ev.trans c_bind).trans h
  · simp at h
end transomlaw12_SheetRanges
end Go.Proofs.YtdbbkmmillnaiaaDoor.Aev
