/- By a program of this session (AEV): functions of the program as plain functions, and that the machine does what they say. -/
import Derived.Test.YtdbbkmmillnaiaaDoorTys
import Derived.Test.YtdbbkmmillnaiaaDoorProg
import Derived.Laws.Externs
import Derived.Lib.Bytealg
import Derived.Test.YtdbbkmmillnaiaaDoorF5
import Derived.Test.YtdbbkmmillnaiaaDoorF6
namespace Go.Proofs.YtdbbkmmillnaiaaDoor.Aev
set_option linter.unusedVariables false
set_option linter.unusedSimpArgs false
set_option maxRecDepth 100000
set_option maxHeartbeats 4000000
open Go Go.Proofs.Tryd
namespace sheet_Check
abbrev G : Type := ByteArray → Int → (List D_api_Col) → (List D_api_Line) → Option Int
def ct (g : G) : Ct where
  nin := 0
  mv := []
  F := fun tvs blks {β} K => match tvs, blks with
    | [.v (.agg [(.d .str a0), (.d (.int .i64) a1), (.d (.sl (.pair .str (.pair (.int .i64) (.pair .bool (.pair (.pair (.int .i64) (.pair (.int .i64) (.pair (.int .u64) (.pair .str .unit)))) .unit))))) a2), (.d (.sl (.pair .str (.pair (.sl (.pair (.int .i64) (.pair (.int .i64) (.pair (.int .u64) (.pair .str .unit))))) .unit))) a3)])], [] => (g a0 a1 a2 a3).bind fun r => K ⟨.v (.one (.d (.int .i64) r)), []⟩
    | _, _ => none
  legit := fun _ _ K _ h => by split at h; exact (legit1 K h :); simp at h
abbrev S0 : Type := (List D_api_Line) → Int → Int → ByteArray → Int → (List D_api_Col) → (List D_api_Line) → Option Int
abbrev S1 : Type := (List D_api_Line) → Int → Int → Bool → ByteArray → Int → (List D_api_Col) → (List D_api_Line) → Option Int
abbrev S2 : Type := (List D_api_Line) → Int → Int → ByteArray → Int → (List D_api_Col) → (List D_api_Line) → Option Int
def sg0 (g : S0) : Seg where
  path := [4, 1, 0, 1, 1]
  prep := []
  keep := [1, 15, 16, 17]
  F := fun tvs blks {β} K => match tvs, blks with
    | [.v (.one (.ptr 0 0)), .v (.one (.d (.sl (.pair .str (.pair (.sl (.pair (.int .i64) (.pair (.int .i64) (.pair (.int .u64) (.pair .str .unit))))) .unit))) x0)), .v (.one (.d (.int .i64) x1)), .v (.one (.d (.int .i64) x2))], [some (.box [(.d .str x3), (.d (.int .i64) x4), (.d (.sl (.pair .str (.pair (.int .i64) (.pair .bool (.pair (.pair (.int .i64) (.pair (.int .i64) (.pair (.int .u64) (.pair .str .unit)))) .unit))))) x5), (.d (.sl (.pair .str (.pair (.sl (.pair (.int .i64) (.pair (.int .i64) (.pair (.int .u64) (.pair .str .unit))))) .unit))) x6)])] => (g x0 x1 x2 x3 x4 x5 x6).bind fun r => K ⟨.v (.one (.d (.int .i64) r)), []⟩
    | _, _ => none
  legit := fun _ _ K _ h => by split at h; exact (legit1 K h :); simp at h
def sg1 (g : S1) : Seg where
  path := [1, 3, 1, 3, 1, 4, 1, 1, 4, 0, 1, 1, 5, 4, 1, 0, 1, 1]
  prep := []
  keep := [1, 15, 16, 17, 39]
  F := fun tvs blks {β} K => match tvs, blks with
    | [.v (.one (.ptr 0 0)), .v (.one (.d (.sl (.pair .str (.pair (.sl (.pair (.int .i64) (.pair (.int .i64) (.pair (.int .u64) (.pair .str .unit))))) .unit))) x0)), .v (.one (.d (.int .i64) x1)), .v (.one (.d (.int .i64) x2)), .v (.one (.d .bool x3))], [some (.box [(.d .str x4), (.d (.int .i64) x5), (.d (.sl (.pair .str (.pair (.int .i64) (.pair .bool (.pair (.pair (.int .i64) (.pair (.int .i64) (.pair (.int .u64) (.pair .str .unit)))) .unit))))) x6), (.d (.sl (.pair .str (.pair (.sl (.pair (.int .i64) (.pair (.int .i64) (.pair (.int .u64) (.pair .str .unit))))) .unit))) x7)])] => (g x0 x1 x2 x3 x4 x5 x6 x7).bind fun r => K ⟨.v (.one (.d (.int .i64) r)), []⟩
    | _, _ => none
  legit := fun _ _ K _ h => by split at h; exact (legit1 K h :); simp at h
def sg2 (g : S2) : Seg where
  path := [1, 1, 1, 5, 4, 1, 0, 1, 1]
  prep := []
  keep := [1, 15, 16, 17]
  F := fun tvs blks {β} K => match tvs, blks with
    | [.v (.one (.ptr 0 0)), .v (.one (.d (.sl (.pair .str (.pair (.sl (.pair (.int .i64) (.pair (.int .i64) (.pair (.int .u64) (.pair .str .unit))))) .unit))) x0)), .v (.one (.d (.int .i64) x1)), .v (.one (.d (.int .i64) x2))], [some (.box [(.d .str x3), (.d (.int .i64) x4), (.d (.sl (.pair .str (.pair (.int .i64) (.pair .bool (.pair (.pair (.int .i64) (.pair (.int .i64) (.pair (.int .u64) (.pair .str .unit)))) .unit))))) x5), (.d (.sl (.pair .str (.pair (.sl (.pair (.int .i64) (.pair (.int .i64) (.pair (.int .u64) (.pair .str .unit))))) .unit))) x6)])] => (g x0 x1 x2 x3 x4 x5 x6).bind fun r => K ⟨.v (.one (.d (.int .i64) r)), []⟩
    | _, _ => none
  legit := fun _ _ K _ h => by split at h; exact (legit1 K h :); simp at h
noncomputable def env (g21 : schema_Key.G) (g26 : schema_Check.G) (s0 : S0) (s1 : S1) (s2 : S2) : FEnv := { P := prog, ct := fun m => if m = 21 then some (schema_Key.ct g21) else if m = 26 then some (schema_Check.ct g26) else none, N := 54, body := f8.body.getD .skip, rvs := [.tmp 2], rts := [29], nin := 0, rmv := [], segs := [sg0 s0, sg1 s1, sg2 s2] }
def c {β : Type} (g21 : schema_Key.G) (g26 : schema_Check.G) (s0 : S0) (s1 : S1) (s2 : S2) (a0 : ByteArray) (a1 : Int) (a2 : List D_api_Col) (a3 : List D_api_Line) (ret : Int → Option β) : Option β := ((g26 a0 a1 a2).bind fun r0 => (bif (r0 != (0 : Int)) then (ret (r0)) else ((s0 a3 ((List.length a3) : Int) (0 : Int) a0 a1 a2 a3).bind ret)))
def s0c {β : Type} (g21 : schema_Key.G) (g26 : schema_Check.G) (s0 : S0) (s1 : S1) (s2 : S2) (x0 : List D_api_Line) (x1 : Int) (x2 : Int) (x3 : ByteArray) (x4 : Int) (x5 : List D_api_Col) (x6 : List D_api_Line) (ret : Int → Option β) : Option β := (bif (decide (x2 < x1)) then (bif ((decide ((0 : Int) ≤ x2)) && (decide (x2 < ((List.length x0) : Int)))) then ((g21 x3 x4 x5 (elem T_api_Line x0 x2).2.1).bind fun r0 => (bif (r0.2 != (0 : Int)) then (ret (r0.2)) else (bif (!((ByteArray.toList r0.1) == (ByteArray.toList (elem T_api_Line x0 x2).1))) then (ret ((4 : Int))) else (bif (decide (x2 > (0 : Int))) then (bif ((decide ((0 : Int) ≤ (IntKind.wrap IntKind.i64 (x2 - (1 : Int))))) && (decide ((IntKind.wrap IntKind.i64 (x2 - (1 : Int))) < ((List.length x6) : Int)))) then ((s1 x0 x1 x2 ((Op.bytesLess (ByteArray.toList r0.1) (ByteArray.toList (elem T_api_Line x6 (IntKind.wrap IntKind.i64 (x2 - (1 : Int)))).1)) || ((ByteArray.toList r0.1) == (ByteArray.toList (elem T_api_Line x6 (IntKind.wrap IntKind.i64 (x2 - (1 : Int)))).1))) x3 x4 x5 x6).bind ret) else none) else ((s1 x0 x1 x2 false x3 x4 x5 x6).bind ret))))) else none) else (ret ((0 : Int))))
def s1c {β : Type} (g21 : schema_Key.G) (g26 : schema_Check.G) (s0 : S0) (s1 : S1) (s2 : S2) (x0 : List D_api_Line) (x1 : Int) (x2 : Int) (x3 : Bool) (x4 : ByteArray) (x5 : Int) (x6 : List D_api_Col) (x7 : List D_api_Line) (ret : Int → Option β) : Option β := (bif x3 then (ret ((13 : Int))) else ((s2 x0 x1 x2 x4 x5 x6 x7).bind ret))
def s2c {β : Type} (g21 : schema_Key.G) (g26 : schema_Check.G) (s0 : S0) (s1 : S1) (s2 : S2) (x0 : List D_api_Line) (x1 : Int) (x2 : Int) (x3 : ByteArray) (x4 : Int) (x5 : List D_api_Col) (x6 : List D_api_Line) (ret : Int → Option β) : Option β := ((s0 x0 x1 (IntKind.wrap IntKind.i64 (x2 + (1 : Int))) x3 x4 x5 x6).bind ret)
theorem c_bind {β : Type} {g21 : schema_Key.G} {g26 : schema_Check.G} {s0 : S0} {s1 : S1} {s2 : S2} {a0 : ByteArray} {a1 : Int} {a2 : List D_api_Col} {a3 : List D_api_Line} {ret : Int → Option β} : c g21 g26 s0 s1 s2 a0 a1 a2 a3 ret = (c g21 g26 s0 s1 s2 a0 a1 a2 a3 some).bind ret := by
  simp only [c, bif_bind, sum_bind, oa, os, on, ofs]
theorem s0c_bind {β : Type} {g21 : schema_Key.G} {g26 : schema_Check.G} {s0 : S0} {s1 : S1} {s2 : S2} {x0 : List D_api_Line} {x1 : Int} {x2 : Int} {x3 : ByteArray} {x4 : Int} {x5 : List D_api_Col} {x6 : List D_api_Line} {ret : Int → Option β} : s0c g21 g26 s0 s1 s2 x0 x1 x2 x3 x4 x5 x6 ret = (s0c g21 g26 s0 s1 s2 x0 x1 x2 x3 x4 x5 x6 some).bind ret := by
  simp only [s0c, bif_bind, sum_bind, oa, os, on, ofs]
theorem s1c_bind {β : Type} {g21 : schema_Key.G} {g26 : schema_Check.G} {s0 : S0} {s1 : S1} {s2 : S2} {x0 : List D_api_Line} {x1 : Int} {x2 : Int} {x3 : Bool} {x4 : ByteArray} {x5 : Int} {x6 : List D_api_Col} {x7 : List D_api_Line} {ret : Int → Option β} : s1c g21 g26 s0 s1 s2 x0 x1 x2 x3 x4 x5 x6 x7 ret = (s1c g21 g26 s0 s1 s2 x0 x1 x2 x3 x4 x5 x6 x7 some).bind ret := by
  simp only [s1c, bif_bind, sum_bind, oa, os, on, ofs]
theorem s2c_bind {β : Type} {g21 : schema_Key.G} {g26 : schema_Check.G} {s0 : S0} {s1 : S1} {s2 : S2} {x0 : List D_api_Line} {x1 : Int} {x2 : Int} {x3 : ByteArray} {x4 : Int} {x5 : List D_api_Col} {x6 : List D_api_Line} {ret : Int → Option β} : s2c g21 g26 s0 s1 s2 x0 x1 x2 x3 x4 x5 x6 ret = (s2c g21 g26 s0 s1 s2 x0 x1 x2 x3 x4 x5 x6 some).bind ret := by
  simp only [s2c, bif_bind, sum_bind, oa, os, on, ofs]
theorem ev {g21 : schema_Key.G} {g26 : schema_Check.G} {s0 : S0} {s1 : S1} {s2 : S2} {a0 : ByteArray} {a1 : Int} {a2 : List D_api_Col} {a3 : List D_api_Line} : evAt (env g21 g26 s0 s1 s2) [] [0] [.v (.agg [(.d .str a0), (.d (.int .i64) a1), (.d (.sl T_api_Col) a2), (.d (.sl T_api_Line) a3)])] [] some = c g21 g26 s0 s1 s2 a0 a1 a2 a3 (fun r => some ⟨.v (.one (.d (.int .i64) r)), []⟩) := by
  kernel_rfl
theorem s0_ev {g21 : schema_Key.G} {g26 : schema_Check.G} {s0 : S0} {s1 : S1} {s2 : S2} {x0 : List D_api_Line} {x1 : Int} {x2 : Int} {x3 : ByteArray} {x4 : Int} {x5 : List D_api_Col} {x6 : List D_api_Line} : evAt (env g21 g26 s0 s1 s2) [4, 1, 0, 1, 1] [1, 15, 16, 17] [.v (.one (.ptr 0 0)), .v (.one (.d (.sl T_api_Line) x0)), .v (.one (.d (.int .i64) x1)), .v (.one (.d (.int .i64) x2))] [some (.box [(.d .str x3), (.d (.int .i64) x4), (.d (.sl T_api_Col) x5), (.d (.sl T_api_Line) x6)])] some = s0c g21 g26 s0 s1 s2 x0 x1 x2 x3 x4 x5 x6 (fun r => some ⟨.v (.one (.d (.int .i64) r)), []⟩) := by
  kernel_rfl
theorem s1_ev {g21 : schema_Key.G} {g26 : schema_Check.G} {s0 : S0} {s1 : S1} {s2 : S2} {x0 : List D_api_Line} {x1 : Int} {x2 : Int} {x3 : Bool} {x4 : ByteArray} {x5 : Int} {x6 : List D_api_Col} {x7 : List D_api_Line} : evAt (env g21 g26 s0 s1 s2) [1, 3, 1, 3, 1, 4, 1, 1, 4, 0, 1, 1, 5, 4, 1, 0, 1, 1] [1, 15, 16, 17, 39] [.v (.one (.ptr 0 0)), .v (.one (.d (.sl T_api_Line) x0)), .v (.one (.d (.int .i64) x1)), .v (.one (.d (.int .i64) x2)), .v (.one (.d .bool x3))] [some (.box [(.d .str x4), (.d (.int .i64) x5), (.d (.sl T_api_Col) x6), (.d (.sl T_api_Line) x7)])] some = s1c g21 g26 s0 s1 s2 x0 x1 x2 x3 x4 x5 x6 x7 (fun r => some ⟨.v (.one (.d (.int .i64) r)), []⟩) := by
  kernel_rfl
theorem s2_ev {g21 : schema_Key.G} {g26 : schema_Check.G} {s0 : S0} {s1 : S1} {s2 : S2} {x0 : List D_api_Line} {x1 : Int} {x2 : Int} {x3 : ByteArray} {x4 : Int} {x5 : List D_api_Col} {x6 : List D_api_Line} : evAt (env g21 g26 s0 s1 s2) [1, 1, 1, 5, 4, 1, 0, 1, 1] [1, 15, 16, 17] [.v (.one (.ptr 0 0)), .v (.one (.d (.sl T_api_Line) x0)), .v (.one (.d (.int .i64) x1)), .v (.one (.d (.int .i64) x2))] [some (.box [(.d .str x3), (.d (.int .i64) x4), (.d (.sl T_api_Col) x5), (.d (.sl T_api_Line) x6)])] some = s2c g21 g26 s0 s1 s2 x0 x1 x2 x3 x4 x5 x6 (fun r => some ⟨.v (.one (.d (.int .i64) r)), []⟩) := by
  kernel_rfl
mutual
def s0 : Nat → (List D_api_Line) → Int → Int → ByteArray → Int → (List D_api_Col) → (List D_api_Line) → Option Int
  | 0, _, _, _, _, _, _, _ => none
  | k + 1, x0, x1, x2, x3, x4, x5, x6 => s0c (schema_Key.f k) (schema_Check.f k) (s0 k) (s1 k) (s2 k) x0 x1 x2 x3 x4 x5 x6 some
def s1 : Nat → (List D_api_Line) → Int → Int → Bool → ByteArray → Int → (List D_api_Col) → (List D_api_Line) → Option Int
  | 0, _, _, _, _, _, _, _, _ => none
  | k + 1, x0, x1, x2, x3, x4, x5, x6, x7 => s1c (schema_Key.f k) (schema_Check.f k) (s0 k) (s1 k) (s2 k) x0 x1 x2 x3 x4 x5 x6 x7 some
def s2 : Nat → (List D_api_Line) → Int → Int → ByteArray → Int → (List D_api_Col) → (List D_api_Line) → Option Int
  | 0, _, _, _, _, _, _, _ => none
  | k + 1, x0, x1, x2, x3, x4, x5, x6 => s2c (schema_Key.f k) (schema_Check.f k) (s0 k) (s1 k) (s2 k) x0 x1 x2 x3 x4 x5 x6 some
end
def f (k : Nat) (a0 : ByteArray) (a1 : Int) (a2 : List D_api_Col) (a3 : List D_api_Line) : Option Int := c (schema_Key.f k) (schema_Check.f k) (s0 k) (s1 k) (s2 k) a0 a1 a2 a3 some
theorem is {g21 : schema_Key.G} {g26 : schema_Check.G} {s0 : S0} {s1 : S1} {s2 : S2} : FnIs (env g21 g26 s0 s1 s2) 8 f8 := ⟨func8, rfl, rfl, rfl, by decide⟩
theorem envok {g21 : schema_Key.G} {g26 : schema_Check.G} {s0 : S0} {s1 : S1} {s2 : S2} (h21 : CtOK prog 21 (schema_Key.ct g21)) (h26 : CtOK prog 26 (schema_Check.ct g26)) : EnvOK (env g21 g26 s0 s1 s2).toEnv := by
  intro f c h
  simp only [env] at h
  split at h
  · rename_i e; subst e; cases h; exact h21
  split at h
  · rename_i e; subst e; cases h; exact h26
  simp at h
noncomputable abbrev E (k : Nat) : FEnv := env (schema_Key.f k) (schema_Check.f k) (s0 k) (s1 k) (s2 k)
theorem hE (k : Nat) : EnvOK (E k).toEnv := envok (schema_Key.ok k) (schema_Check.ok k)
theorem segs_ok : ∀ k, ∀ s ∈ (E k).segs, SegOK (E k) f8 s
  | 0 => by
    intro s hs
    simp only [E, env, List.mem_cons, List.not_mem_nil, or_false] at hs
    rcases hs with rfl | rfl | rfl
    · intro tvs blks res h; exfalso; simp only [sg0] at h; split at h <;> simp [s0] at h
    · intro tvs blks res h; exfalso; simp only [sg1] at h; split at h <;> simp [s1] at h
    · intro tvs blks res h; exfalso; simp only [sg2] at h; split at h <;> simp [s2] at h
  | k + 1 => by
    intro s hs
    simp only [E, env, List.mem_cons, List.not_mem_nil, or_false] at hs
    rcases hs with rfl | rfl | rfl
    · refine seg_of_ev (E := E k) (hE k) ⟨is.rvs⟩ (segs_ok k) ?_
      intro tvs blks res h
      simp only [sg0] at h
      split at h
      · exact (s0_ev.trans s0c_bind).trans h
      · simp at h
    · refine seg_of_ev (E := E k) (hE k) ⟨is.rvs⟩ (segs_ok k) ?_
      intro tvs blks res h
      simp only [sg1] at h
      split at h
      · exact (s1_ev.trans s1c_bind).trans h
      · simp at h
    · refine seg_of_ev (E := E k) (hE k) ⟨is.rvs⟩ (segs_ok k) ?_
      intro tvs blks res h
      simp only [sg2] at h
      split at h
      · exact (s2_ev.trans s2c_bind).trans h
      · simp at h
theorem ok (k : Nat) : CtOK prog 8 (ct (f k)) := by
  refine ct_of_ev (E := E k) is (hE k) (segs_ok k) rfl ?_
  intro tvs blks res h
  simp only [ct] at h
  split at h
  · exact (ev.trans c_bind).trans h
  · simp at h
end sheet_Check
namespace transomref08_letter
abbrev G : Type := Int → Option Bool
def ct (g : G) : Ct where
  nin := 0
  mv := []
  F := fun tvs blks {β} K => match tvs, blks with
    | [.v (.one (.d (.int .u8) a0))], [] => (g a0).bind fun r => K ⟨.v (.one (.d .bool r)), []⟩
    | _, _ => none
  legit := fun _ _ K _ h => by split at h; exact (legit1 K h :); simp at h
noncomputable def env   : FEnv := { P := prog, ct := fun m => none, N := 9, body := f62.body.getD .skip, rvs := [.tmp 2], rts := [4], nin := 0, rmv := [], segs := [] }
def c {β : Type}   (a0 : Int) (ret : Bool → Option β) : Option β := (bif (decide (a0 ≥ (97 : Int))) then (ret ((decide (a0 ≤ (122 : Int))))) else (ret (false)))
theorem c_bind {β : Type}   {a0 : Int} {ret : Bool → Option β} : c   a0 ret = (c   a0 some).bind ret := by
  simp only [c, bif_bind, sum_bind, oa, os, on, ofs]
theorem ev   {a0 : Int} : evAt (env  ) [] [0] [.v (.one (.d (.int .u8) a0))] [] some = c   a0 (fun r => some ⟨.v (.one (.d .bool r)), []⟩) := by
  kernel_rfl
def f (k : Nat) (a0 : Int) : Option Bool := c   a0 some
theorem is   : FnIs (env  ) 62 f62 := ⟨func62, rfl, rfl, rfl, by decide⟩
theorem envok    : EnvOK (env  ).toEnv := by
  intro f c h
  simp only [env] at h
  simp at h
noncomputable abbrev E (k : Nat) : FEnv := env  
theorem hE (k : Nat) : EnvOK (E k).toEnv := envok 
theorem ok (k : Nat) : CtOK prog 62 (ct (f k)) := by
  refine ct_of_ev (E := E k) is (hE k) (fun s hs => by simp [E, env] at hs) rfl ?_
  intro tvs blks res h
  simp only [ct] at h
  split at h
  · exact (ev.trans c_bind).trans h
  · simp at h
end transomref08_letter
namespace transomref08_Check
abbrev G : Type := ByteArray → Option Int
def ct (g : G) : Ct where
  nin := 0
  mv := []
  F := fun tvs blks {β} K => match tvs, blks with
    | [.v (.one (.d .str a0))], [] => (g a0).bind fun r => K ⟨.v (.one (.d (.int .i64) r)), []⟩
    | _, _ => none
  legit := fun _ _ K _ h => by split at h; exact (legit1 K h :); simp at h
abbrev S0 : Type := ByteArray → Bool → Option Int
abbrev S1 : Type := ByteArray → Option Int
abbrev S2 : Type := ByteArray → Int → Option Int
abbrev S3 : Type := ByteArray → Int → Bool → Option Int
abbrev S4 : Type := ByteArray → Int → Option Int
def sg0 (g : S0) : Seg where
  path := [1, 0, 1]
  prep := []
  keep := [0, 17]
  F := fun tvs blks {β} K => match tvs, blks with
    | [.v (.one (.d .str x0)), .v (.one (.d .bool x1))], [] => (g x0 x1).bind fun r => K ⟨.v (.one (.d (.int .i64) r)), []⟩
    | _, _ => none
  legit := fun _ _ K _ h => by split at h; exact (legit1 K h :); simp at h
def sg1 (g : S1) : Seg where
  path := [1, 1]
  prep := []
  keep := [0]
  F := fun tvs blks {β} K => match tvs, blks with
    | [.v (.one (.d .str x0))], [] => (g x0).bind fun r => K ⟨.v (.one (.d (.int .i64) r)), []⟩
    | _, _ => none
  legit := fun _ _ K _ h => by split at h; exact (legit1 K h :); simp at h
def sg2 (g : S2) : Seg where
  path := [4, 1, 0, 1, 1]
  prep := []
  keep := [0, 3]
  F := fun tvs blks {β} K => match tvs, blks with
    | [.v (.one (.d .str x0)), .v (.one (.d (.int .i64) x1))], [] => (g x0 x1).bind fun r => K ⟨.v (.one (.d (.int .i64) r)), []⟩
    | _, _ => none
  legit := fun _ _ K _ h => by split at h; exact (legit1 K h :); simp at h
def sg3 (g : S3) : Seg where
  path := [1, 4, 0, 1, 5, 4, 1, 0, 1, 1]
  prep := []
  keep := [0, 3, 46]
  F := fun tvs blks {β} K => match tvs, blks with
    | [.v (.one (.d .str x0)), .v (.one (.d (.int .i64) x1)), .v (.one (.d .bool x2))], [] => (g x0 x1 x2).bind fun r => K ⟨.v (.one (.d (.int .i64) r)), []⟩
    | _, _ => none
  legit := fun _ _ K _ h => by split at h; exact (legit1 K h :); simp at h
def sg4 (g : S4) : Seg where
  path := [1, 1, 5, 4, 1, 0, 1, 1]
  prep := []
  keep := [0, 3]
  F := fun tvs blks {β} K => match tvs, blks with
    | [.v (.one (.d .str x0)), .v (.one (.d (.int .i64) x1))], [] => (g x0 x1).bind fun r => K ⟨.v (.one (.d (.int .i64) r)), []⟩
    | _, _ => none
  legit := fun _ _ K _ h => by split at h; exact (legit1 K h :); simp at h
noncomputable def env (g62 : transomref08_letter.G) (s0 : S0) (s1 : S1) (s2 : S2) (s3 : S3) (s4 : S4) : FEnv := { P := prog, ct := fun m => if m = 62 then some (transomref08_letter.ct g62) else none, N := 47, body := f41.body.getD .skip, rvs := [.tmp 2], rts := [3], nin := 0, rmv := [], segs := [sg0 s0, sg1 s1, sg2 s2, sg3 s3, sg4 s4] }
def c {β : Type} (g62 : transomref08_letter.G) (s0 : S0) (s1 : S1) (s2 : S2) (s3 : S3) (s4 : S4) (a0 : ByteArray) (ret : Int → Option β) : Option β := (bif (decide (((ByteArray.size a0) : Int) < (1 : Int))) then ((s0 a0 true).bind ret) else (bif (decide (((ByteArray.size a0) : Int) > (16 : Int))) then ((s0 a0 true).bind ret) else (bif (true && (decide ((0 : Int) < ((ByteArray.size a0) : Int)))) then ((g62 (bt a0 (0 : Int))).bind fun r0 => ((s0 a0 (!r0)).bind ret)) else none)))
def s0c {β : Type} (g62 : transomref08_letter.G) (s0 : S0) (s1 : S1) (s2 : S2) (s3 : S3) (s4 : S4) (x0 : ByteArray) (x1 : Bool) (ret : Int → Option β) : Option β := (bif x1 then (ret ((8 : Int))) else ((s1 x0).bind ret))
def s1c {β : Type} (g62 : transomref08_letter.G) (s0 : S0) (s1 : S1) (s2 : S2) (s3 : S3) (s4 : S4) (x0 : ByteArray) (ret : Int → Option β) : Option β := ((s2 x0 (1 : Int)).bind ret)
def s2c {β : Type} (g62 : transomref08_letter.G) (s0 : S0) (s1 : S1) (s2 : S2) (s3 : S3) (s4 : S4) (x0 : ByteArray) (x1 : Int) (ret : Int → Option β) : Option β := (bif (decide (x1 < ((ByteArray.size x0) : Int))) then (bif ((decide ((0 : Int) ≤ x1)) && (decide (x1 < ((ByteArray.size x0) : Int)))) then ((g62 (bt x0 x1)).bind fun r0 => (bif (!r0) then (bif ((decide ((0 : Int) ≤ x1)) && (decide (x1 < ((ByteArray.size x0) : Int)))) then (bif ((bt x0 x1) != (95 : Int)) then (bif ((decide ((0 : Int) ≤ x1)) && (decide (x1 < ((ByteArray.size x0) : Int)))) then (bif (decide ((bt x0 x1) < (48 : Int))) then ((s3 x0 x1 true).bind ret) else (bif ((decide ((0 : Int) ≤ x1)) && (decide (x1 < ((ByteArray.size x0) : Int)))) then ((s3 x0 x1 (decide ((bt x0 x1) > (57 : Int)))).bind ret) else none)) else none) else ((s3 x0 x1 false).bind ret)) else none) else ((s3 x0 x1 false).bind ret))) else none) else (ret ((0 : Int))))
def s3c {β : Type} (g62 : transomref08_letter.G) (s0 : S0) (s1 : S1) (s2 : S2) (s3 : S3) (s4 : S4) (x0 : ByteArray) (x1 : Int) (x2 : Bool) (ret : Int → Option β) : Option β := (bif x2 then (ret ((8 : Int))) else ((s4 x0 x1).bind ret))
def s4c {β : Type} (g62 : transomref08_letter.G) (s0 : S0) (s1 : S1) (s2 : S2) (s3 : S3) (s4 : S4) (x0 : ByteArray) (x1 : Int) (ret : Int → Option β) : Option β := ((s2 x0 (IntKind.wrap IntKind.i64 (x1 + (1 : Int)))).bind ret)
theorem c_bind {β : Type} {g62 : transomref08_letter.G} {s0 : S0} {s1 : S1} {s2 : S2} {s3 : S3} {s4 : S4} {a0 : ByteArray} {ret : Int → Option β} : c g62 s0 s1 s2 s3 s4 a0 ret = (c g62 s0 s1 s2 s3 s4 a0 some).bind ret := by
  simp only [c, bif_bind, sum_bind, oa, os, on, ofs]
theorem s0c_bind {β : Type} {g62 : transomref08_letter.G} {s0 : S0} {s1 : S1} {s2 : S2} {s3 : S3} {s4 : S4} {x0 : ByteArray} {x1 : Bool} {ret : Int → Option β} : s0c g62 s0 s1 s2 s3 s4 x0 x1 ret = (s0c g62 s0 s1 s2 s3 s4 x0 x1 some).bind ret := by
  simp only [s0c, bif_bind, sum_bind, oa, os, on, ofs]
theorem s1c_bind {β : Type} {g62 : transomref08_letter.G} {s0 : S0} {s1 : S1} {s2 : S2} {s3 : S3} {s4 : S4} {x0 : ByteArray} {ret : Int → Option β} : s1c g62 s0 s1 s2 s3 s4 x0 ret = (s1c g62 s0 s1 s2 s3 s4 x0 some).bind ret := by
  simp only [s1c, bif_bind, sum_bind, oa, os, on, ofs]
theorem s2c_bind {β : Type} {g62 : transomref08_letter.G} {s0 : S0} {s1 : S1} {s2 : S2} {s3 : S3} {s4 : S4} {x0 : ByteArray} {x1 : Int} {ret : Int → Option β} : s2c g62 s0 s1 s2 s3 s4 x0 x1 ret = (s2c g62 s0 s1 s2 s3 s4 x0 x1 some).bind ret := by
  simp only [s2c, bif_bind, sum_bind, oa, os, on, ofs]
theorem s3c_bind {β : Type} {g62 : transomref08_letter.G} {s0 : S0} {s1 : S1} {s2 : S2} {s3 : S3} {s4 : S4} {x0 : ByteArray} {x1 : Int} {x2 : Bool} {ret : Int → Option β} : s3c g62 s0 s1 s2 s3 s4 x0 x1 x2 ret = (s3c g62 s0 s1 s2 s3 s4 x0 x1 x2 some).bind ret := by
  simp only [s3c, bif_bind, sum_bind, oa, os, on, ofs]
theorem s4c_bind {β : Type} {g62 : transomref08_letter.G} {s0 : S0} {s1 : S1} {s2 : S2} {s3 : S3} {s4 : S4} {x0 : ByteArray} {x1 : Int} {ret : Int → Option β} : s4c g62 s0 s1 s2 s3 s4 x0 x1 ret = (s4c g62 s0 s1 s2 s3 s4 x0 x1 some).bind ret := by
  simp only [s4c, bif_bind, sum_bind, oa, os, on, ofs]
theorem ev {g62 : transomref08_letter.G} {s0 : S0} {s1 : S1} {s2 : S2} {s3 : S3} {s4 : S4} {a0 : ByteArray} : evAt (env g62 s0 s1 s2 s3 s4) [] [0] [.v (.one (.d .str a0))] [] some = c g62 s0 s1 s2 s3 s4 a0 (fun r => some ⟨.v (.one (.d (.int .i64) r)), []⟩) := by
  kernel_rfl
theorem s0_ev {g62 : transomref08_letter.G} {s0 : S0} {s1 : S1} {s2 : S2} {s3 : S3} {s4 : S4} {x0 : ByteArray} {x1 : Bool} : evAt (env g62 s0 s1 s2 s3 s4) [1, 0, 1] [0, 17] [.v (.one (.d .str x0)), .v (.one (.d .bool x1))] [] some = s0c g62 s0 s1 s2 s3 s4 x0 x1 (fun r => some ⟨.v (.one (.d (.int .i64) r)), []⟩) := by
  kernel_rfl
theorem s1_ev {g62 : transomref08_letter.G} {s0 : S0} {s1 : S1} {s2 : S2} {s3 : S3} {s4 : S4} {x0 : ByteArray} : evAt (env g62 s0 s1 s2 s3 s4) [1, 1] [0] [.v (.one (.d .str x0))] [] some = s1c g62 s0 s1 s2 s3 s4 x0 (fun r => some ⟨.v (.one (.d (.int .i64) r)), []⟩) := by
  kernel_rfl
theorem s2_ev {g62 : transomref08_letter.G} {s0 : S0} {s1 : S1} {s2 : S2} {s3 : S3} {s4 : S4} {x0 : ByteArray} {x1 : Int} : evAt (env g62 s0 s1 s2 s3 s4) [4, 1, 0, 1, 1] [0, 3] [.v (.one (.d .str x0)), .v (.one (.d (.int .i64) x1))] [] some = s2c g62 s0 s1 s2 s3 s4 x0 x1 (fun r => some ⟨.v (.one (.d (.int .i64) r)), []⟩) := by
  kernel_rfl
theorem s3_ev {g62 : transomref08_letter.G} {s0 : S0} {s1 : S1} {s2 : S2} {s3 : S3} {s4 : S4} {x0 : ByteArray} {x1 : Int} {x2 : Bool} : evAt (env g62 s0 s1 s2 s3 s4) [1, 4, 0, 1, 5, 4, 1, 0, 1, 1] [0, 3, 46] [.v (.one (.d .str x0)), .v (.one (.d (.int .i64) x1)), .v (.one (.d .bool x2))] [] some = s3c g62 s0 s1 s2 s3 s4 x0 x1 x2 (fun r => some ⟨.v (.one (.d (.int .i64) r)), []⟩) := by
  kernel_rfl
theorem s4_ev {g62 : transomref08_letter.G} {s0 : S0} {s1 : S1} {s2 : S2} {s3 : S3} {s4 : S4} {x0 : ByteArray} {x1 : Int} : evAt (env g62 s0 s1 s2 s3 s4) [1, 1, 5, 4, 1, 0, 1, 1] [0, 3] [.v (.one (.d .str x0)), .v (.one (.d (.int .i64) x1))] [] some = s4c g62 s0 s1 s2 s3 s4 x0 x1 (fun r => some ⟨.v (.one (.d (.int .i64) r)), []⟩) := by
  kernel_rfl
mutual
def s0 : Nat → ByteArray → Bool → Option Int
  | 0, _, _ => none
  | k + 1, x0, x1 => s0c (transomref08_letter.f k) (s0 k) (s1 k) (s2 k) (s3 k) (s4 k) x0 x1 some
def s1 : Nat → ByteArray → Option Int
  | 0, _ => none
  | k + 1, x0 => s1c (transomref08_letter.f k) (s0 k) (s1 k) (s2 k) (s3 k) (s4 k) x0 some
def s2 : Nat → ByteArray → Int → Option Int
  | 0, _, _ => none
  | k + 1, x0, x1 => s2c (transomref08_letter.f k) (s0 k) (s1 k) (s2 k) (s3 k) (s4 k) x0 x1 some
def s3 : Nat → ByteArray → Int → Bool → Option Int
  | 0, _, _, _ => none
  | k + 1, x0, x1, x2 => s3c (transomref08_letter.f k) (s0 k) (s1 k) (s2 k) (s3 k) (s4 k) x0 x1 x2 some
def s4 : Nat → ByteArray → Int → Option Int
  | 0, _, _ => none
  | k + 1, x0, x1 => s4c (transomref08_letter.f k) (s0 k) (s1 k) (s2 k) (s3 k) (s4 k) x0 x1 some
end
def f (k : Nat) (a0 : ByteArray) : Option Int := c (transomref08_letter.f k) (s0 k) (s1 k) (s2 k) (s3 k) (s4 k) a0 some
theorem is {g62 : transomref08_letter.G} {s0 : S0} {s1 : S1} {s2 : S2} {s3 : S3} {s4 : S4} : FnIs (env g62 s0 s1 s2 s3 s4) 41 f41 := ⟨func41, rfl, rfl, rfl, by decide⟩
theorem envok {g62 : transomref08_letter.G} {s0 : S0} {s1 : S1} {s2 : S2} {s3 : S3} {s4 : S4} (h62 : CtOK prog 62 (transomref08_letter.ct g62)) : EnvOK (env g62 s0 s1 s2 s3 s4).toEnv := by
  intro f c h
  simp only [env] at h
  split at h
  · rename_i e; subst e; cases h; exact h62
  simp at h
noncomputable abbrev E (k : Nat) : FEnv := env (transomref08_letter.f k) (s0 k) (s1 k) (s2 k) (s3 k) (s4 k)
theorem hE (k : Nat) : EnvOK (E k).toEnv := envok (transomref08_letter.ok k)
theorem segs_ok : ∀ k, ∀ s ∈ (E k).segs, SegOK (E k) f41 s
  | 0 => by
    intro s hs
    simp only [E, env, List.mem_cons, List.not_mem_nil, or_false] at hs
    rcases hs with rfl | rfl | rfl | rfl | rfl
    · intro tvs blks res h; exfalso; simp only [sg0] at h; split at h <;> simp [s0] at h
    · intro tvs blks res h; exfalso; simp only [sg1] at h; split at h <;> simp [s1] at h
    · intro tvs blks res h; exfalso; simp only [sg2] at h; split at h <;> simp [s2] at h
    · intro tvs blks res h; exfalso; simp only [sg3] at h; split at h <;> simp [s3] at h
    · intro tvs blks res h; exfalso; simp only [sg4] at h; split at h <;> simp [s4] at h
  | k + 1 => by
    intro s hs
    simp only [E, env, List.mem_cons, List.not_mem_nil, or_false] at hs
    rcases hs with rfl | rfl | rfl | rfl | rfl
    · refine seg_of_ev (E := E k) (hE k) ⟨is.rvs⟩ (segs_ok k) ?_
      intro tvs blks res h
      simp only [sg0] at h
      split at h
      · exact (s0_ev.trans s0c_bind).trans h
      · simp at h
    · refine seg_of_ev (E := E k) (hE k) ⟨is.rvs⟩ (segs_ok k) ?_
      intro tvs blks res h
      simp only [sg1] at h
      split at h
      · exact (s1_ev.trans s1c_bind).trans h
      · simp at h
    · refine seg_of_ev (E := E k) (hE k) ⟨is.rvs⟩ (segs_ok k) ?_
      intro tvs blks res h
      simp only [sg2] at h
      split at h
      · exact (s2_ev.trans s2c_bind).trans h
      · simp at h
    · refine seg_of_ev (E := E k) (hE k) ⟨is.rvs⟩ (segs_ok k) ?_
      intro tvs blks res h
      simp only [sg3] at h
      split at h
      · exact (s3_ev.trans s3c_bind).trans h
      · simp at h
    · refine seg_of_ev (E := E k) (hE k) ⟨is.rvs⟩ (segs_ok k) ?_
      intro tvs blks res h
      simp only [sg4] at h
      split at h
      · exact (s4_ev.trans s4c_bind).trans h
      · simp at h
theorem ok (k : Nat) : CtOK prog 41 (ct (f k)) := by
  refine ct_of_ev (E := E k) is (hE k) (segs_ok k) rfl ?_
  intro tvs blks res h
  simp only [ct] at h
  split at h
  · exact (ev.trans c_bind).trans h
  · simp at h
end transomref08_Check
namespace transomref02_exponent
abbrev G : Type := Int → Option Int
def ct (g : G) : Ct where
  nin := 0
  mv := []
  F := fun tvs blks {β} K => match tvs, blks with
    | [.v (.one (.d (.int .u64) a0))], [] => (g a0).bind fun r => K ⟨.v (.one (.d (.int .i64) r)), []⟩
    | _, _ => none
  legit := fun _ _ K _ h => by split at h; exact (legit1 K h :); simp at h
noncomputable def env   : FEnv := { P := prog, ct := fun m => none, N := 7, body := f96.body.getD .skip, rvs := [.tmp 2], rts := [3], nin := 0, rmv := [], segs := [] }
def c {β : Type}   (a0 : Int) (ret : Int → Option β) : Option β := (ret ((IntKind.wrap IntKind.i64 (IntKind.wrap IntKind.u64 ((BitVec.toNat ((BitVec.ofInt (64 : Nat) (Int.fdiv a0 (4503599627370496 : Int))) &&& (BitVec.ofInt (64 : Nat) (2047 : Int)))) : Int)))))
theorem c_bind {β : Type}   {a0 : Int} {ret : Int → Option β} : c   a0 ret = (c   a0 some).bind ret := by
  simp only [c, bif_bind, sum_bind, oa, os, on, ofs]
theorem ev   {a0 : Int} : evAt (env  ) [] [0] [.v (.one (.d (.int .u64) a0))] [] some = c   a0 (fun r => some ⟨.v (.one (.d (.int .i64) r)), []⟩) := by
  kernel_rfl
def f (k : Nat) (a0 : Int) : Option Int := c   a0 some
theorem is   : FnIs (env  ) 96 f96 := ⟨func96, rfl, rfl, rfl, by decide⟩
theorem envok    : EnvOK (env  ).toEnv := by
  intro f c h
  simp only [env] at h
  simp at h
noncomputable abbrev E (k : Nat) : FEnv := env  
theorem hE (k : Nat) : EnvOK (E k).toEnv := envok 
theorem ok (k : Nat) : CtOK prog 96 (ct (f k)) := by
  refine ct_of_ev (E := E k) is (hE k) (fun s hs => by simp [E, env] at hs) rfl ?_
  intro tvs blks res h
  simp only [ct] at h
  split at h
  · exact (ev.trans c_bind).trans h
  · simp at h
end transomref02_exponent
namespace transomref02_fraction
abbrev G : Type := Int → Option Int
def ct (g : G) : Ct where
  nin := 0
  mv := []
  F := fun tvs blks {β} K => match tvs, blks with
    | [.v (.one (.d (.int .u64) a0))], [] => (g a0).bind fun r => K ⟨.v (.one (.d (.int .u64) r)), []⟩
    | _, _ => none
  legit := fun _ _ K _ h => by split at h; exact (legit1 K h :); simp at h
noncomputable def env   : FEnv := { P := prog, ct := fun m => none, N := 5, body := f97.body.getD .skip, rvs := [.tmp 2], rts := [67], nin := 0, rmv := [], segs := [] }
def c {β : Type}   (a0 : Int) (ret : Int → Option β) : Option β := (ret ((IntKind.wrap IntKind.u64 ((BitVec.toNat ((BitVec.ofInt (64 : Nat) a0) &&& (BitVec.ofInt (64 : Nat) (4503599627370495 : Int)))) : Int))))
theorem c_bind {β : Type}   {a0 : Int} {ret : Int → Option β} : c   a0 ret = (c   a0 some).bind ret := by
  simp only [c, bif_bind, sum_bind, oa, os, on, ofs]
theorem ev   {a0 : Int} : evAt (env  ) [] [0] [.v (.one (.d (.int .u64) a0))] [] some = c   a0 (fun r => some ⟨.v (.one (.d (.int .u64) r)), []⟩) := by
  kernel_rfl
def f (k : Nat) (a0 : Int) : Option Int := c   a0 some
theorem is   : FnIs (env  ) 97 f97 := ⟨func97, rfl, rfl, rfl, by decide⟩
theorem envok    : EnvOK (env  ).toEnv := by
  intro f c h
  simp only [env] at h
  simp at h
noncomputable abbrev E (k : Nat) : FEnv := env  
theorem hE (k : Nat) : EnvOK (E k).toEnv := envok 
theorem ok (k : Nat) : CtOK prog 97 (ct (f k)) := by
  refine ct_of_ev (E := E k) is (hE k) (fun s hs => by simp [E, env] at hs) rfl ?_
  intro tvs blks res h
  simp only [ct] at h
  split at h
  · exact (ev.trans c_bind).trans h
  · simp at h
end transomref02_fraction
end Go.Proofs.YtdbbkmmillnaiaaDoor.Aev
