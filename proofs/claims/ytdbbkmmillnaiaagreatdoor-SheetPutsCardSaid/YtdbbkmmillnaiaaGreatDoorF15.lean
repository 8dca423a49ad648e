/- By a program of this session (AEV): functions of the program as plain functions, and that the machine does what they say. -/
import Derived.Test.YtdbbkmmillnaiaaGreatDoorTys
import Derived.Test.YtdbbkmmillnaiaaGreatDoorProg
import Derived.Laws.Externs
import Derived.Lib.Bytealg
import Derived.Test.YtdbbkmmillnaiaaGreatDoorF9
import Derived.Test.YtdbbkmmillnaiaaGreatDoorF14
namespace Go.Proofs.YtdbbkmmillnaiaaGreatDoor.Aev
set_option linter.unusedVariables false
set_option linter.unusedSimpArgs false
set_option maxRecDepth 100000
set_option maxHeartbeats 4000000
open Go Go.Proofs.Tryz
namespace transomref05_Row
abbrev G : Type := (List D_api_Value) → Option (ByteArray × Int)
def ct (g : G) : Ct where
  nin := 0
  mv := []
  F := fun tvs blks {β} K => match tvs, blks with
    | [.v (.one (.d (.sl (.pair (.int .i64) (.pair (.int .i64) (.pair (.int .u64) (.pair .str .unit))))) a0))], [] => (g a0).bind fun r => K ⟨.tup [(.one (.d .str r.1)), (.one (.d (.int .i64) r.2))], []⟩
    | _, _ => none
  legit := fun _ _ K _ h => by split at h; exact (legit1 K h :); simp at h
abbrev S0 : Type := (List D_api_Value) → ByteArray → Int → Option (ByteArray × Int)
def sg0 (g : S0) : Seg where
  path := [4, 1, 0, 1, 1]
  prep := []
  keep := [0, 4, 5]
  F := fun tvs blks {β} K => match tvs, blks with
    | [.v (.one (.d (.sl (.pair (.int .i64) (.pair (.int .i64) (.pair (.int .u64) (.pair .str .unit))))) x0)), .v (.one (.d .str x1)), .v (.one (.d (.int .i64) x2))], [] => (g x0 x1 x2).bind fun r => K ⟨.tup [(.one (.d .str r.1)), (.one (.d (.int .i64) r.2))], []⟩
    | _, _ => none
  legit := fun _ _ K _ h => by split at h; exact (legit1 K h :); simp at h
noncomputable def env (g47 : transomref05_Put.G) (s0 : S0) : FEnv := { P := prog, ct := fun m => if m = 47 then some (transomref05_Put.ct g47) else none, N := 29, body := f36.body.getD .skip, rvs := [.tmp 2, .tmp 3], rts := [9, 3], nin := 0, rmv := [], segs := [sg0 s0] }
def c {β : Type} (g47 : transomref05_Put.G) (s0 : S0) (a0 : List D_api_Value) (ret : (ByteArray × Int) → Option β) : Option β := ((s0 a0 (ByteArray.mk (List.toArray [])) (0 : Int)).bind ret)
def s0c {β : Type} (g47 : transomref05_Put.G) (s0 : S0) (x0 : List D_api_Value) (x1 : ByteArray) (x2 : Int) (ret : (ByteArray × Int) → Option β) : Option β := (bif (decide (x2 < ((List.length x0) : Int))) then (bif ((decide ((0 : Int) ≤ x2)) && (decide (x2 < ((List.length x0) : Int)))) then ((g47 (elem T_api_Value x0 x2).1 (elem T_api_Value x0 x2).2.1 (elem T_api_Value x0 x2).2.2.1 (elem T_api_Value x0 x2).2.2.2.1).bind fun r0 => (bif (r0.2 != (0 : Int)) then (ret ((ByteArray.mk (List.toArray [])), r0.2)) else (bif ((decide ((ByteArray.size x1) ≤ (4611686018427387903 : Nat))) && (decide ((ByteArray.size r0.1) ≤ (4611686018427387903 : Nat)))) then ((s0 x0 (x1 ++ r0.1) (IntKind.wrap IntKind.i64 (x2 + (1 : Int)))).bind ret) else none))) else none) else (ret (x1, (0 : Int))))
theorem c_bind {β : Type} {g47 : transomref05_Put.G} {s0 : S0} {a0 : List D_api_Value} {ret : (ByteArray × Int) → Option β} : c g47 s0 a0 ret = (c g47 s0 a0 some).bind ret := by
  simp only [c, bif_bind, sum_bind, oa, os, on, ofs]
theorem s0c_bind {β : Type} {g47 : transomref05_Put.G} {s0 : S0} {x0 : List D_api_Value} {x1 : ByteArray} {x2 : Int} {ret : (ByteArray × Int) → Option β} : s0c g47 s0 x0 x1 x2 ret = (s0c g47 s0 x0 x1 x2 some).bind ret := by
  simp only [s0c, bif_bind, sum_bind, oa, os, on, ofs]
theorem ev {g47 : transomref05_Put.G} {s0 : S0} {a0 : List D_api_Value} : evAt (env g47 s0) [] [0] [.v (.one (.d (.sl T_api_Value) a0))] [] some = c g47 s0 a0 (fun r => some ⟨.tup [(.one (.d .str r.1)), (.one (.d (.int .i64) r.2))], []⟩) := by
  kernel_rfl
theorem s0_ev {g47 : transomref05_Put.G} {s0 : S0} {x0 : List D_api_Value} {x1 : ByteArray} {x2 : Int} : evAt (env g47 s0) [4, 1, 0, 1, 1] [0, 4, 5] [.v (.one (.d (.sl T_api_Value) x0)), .v (.one (.d .str x1)), .v (.one (.d (.int .i64) x2))] [] some = s0c g47 s0 x0 x1 x2 (fun r => some ⟨.tup [(.one (.d .str r.1)), (.one (.d (.int .i64) r.2))], []⟩) := by
  kernel_rfl
def s0 : Nat → (List D_api_Value) → ByteArray → Int → Option (ByteArray × Int)
  | 0, _, _, _ => none
  | k + 1, x0, x1, x2 => s0c (transomref05_Put.f k) (s0 k) x0 x1 x2 some
def f (k : Nat) (a0 : List D_api_Value) : Option (ByteArray × Int) := c (transomref05_Put.f k) (s0 k) a0 some
theorem is {g47 : transomref05_Put.G} {s0 : S0} : FnIs (env g47 s0) 36 f36 := ⟨func36, rfl, rfl, rfl, by decide⟩
theorem envok {g47 : transomref05_Put.G} {s0 : S0} (h47 : CtOK prog 47 (transomref05_Put.ct g47)) : EnvOK (env g47 s0).toEnv := by
  intro f c h
  simp only [env] at h
  split at h
  · rename_i e; subst e; cases h; exact h47
  simp at h
noncomputable abbrev E (k : Nat) : FEnv := env (transomref05_Put.f k) (s0 k)
theorem hE (k : Nat) : EnvOK (E k).toEnv := envok (transomref05_Put.ok k)
theorem segs_ok : ∀ k, ∀ s ∈ (E k).segs, SegOK (E k) f36 s
  | 0 => by
    intro s hs
    simp only [E, env, List.mem_cons, List.not_mem_nil, or_false] at hs
    rcases hs with rfl
    · intro tvs blks res h; exfalso; simp only [sg0] at h; split at h <;> simp [s0] at h
  | k + 1 => by
    intro s hs
    simp only [E, env, List.mem_cons, List.not_mem_nil, or_false] at hs
    rcases hs with rfl
    · refine seg_of_ev (E := E k) (hE k) ⟨is.rvs⟩ (segs_ok k) ?_
      intro tvs blks res h
      simp only [sg0] at h
      split at h
      · exact (s0_ev.trans s0c_bind).trans h
      · simp at h
theorem ok (k : Nat) : CtOK prog 36 (ct (f k)) := by
  refine ct_of_ev (E := E k) is (hE k) (segs_ok k) rfl ?_
  intro tvs blks res h
  simp only [ct] at h
  split at h
  · exact (ev.trans c_bind).trans h
  · simp at h
end transomref05_Row
namespace transomref09_Key
abbrev G : Type := ByteArray → Int → (List D_api_Col) → (List D_api_Value) → Option (ByteArray × Int)
def ct (g : G) : Ct where
  nin := 0
  mv := []
  F := fun tvs blks {β} K => match tvs, blks with
    | [.v (.agg [(.d .str a0), (.d (.int .i64) a1), (.d (.sl (.pair .str (.pair (.int .i64) (.pair .bool (.pair (.pair (.int .i64) (.pair (.int .i64) (.pair (.int .u64) (.pair .str .unit)))) .unit))))) a2)]), .v (.one (.d (.sl (.pair (.int .i64) (.pair (.int .i64) (.pair (.int .u64) (.pair .str .unit))))) a3))], [] => (g a0 a1 a2 a3).bind fun r => K ⟨.tup [(.one (.d .str r.1)), (.one (.d (.int .i64) r.2))], []⟩
    | _, _ => none
  legit := fun _ _ K _ h => by split at h; exact (legit1 K h :); simp at h
noncomputable def env (g35 : transomref09_Fits.G) (g36 : transomref05_Row.G)  : FEnv := { P := prog, ct := fun m => if m = 35 then some (transomref09_Fits.ct g35) else if m = 36 then some (transomref05_Row.ct g36) else none, N := 20, body := f26.body.getD .skip, rvs := [.tmp 4, .tmp 5], rts := [9, 3], nin := 0, rmv := [], segs := [] }
def c {β : Type} (g35 : transomref09_Fits.G) (g36 : transomref05_Row.G)  (a0 : ByteArray) (a1 : Int) (a2 : List D_api_Col) (a3 : List D_api_Value) (ret : (ByteArray × Int) → Option β) : Option β := ((g35 a0 a1 a2 a3).bind fun r0 => (bif (r0 != (0 : Int)) then (ret ((ByteArray.mk (List.toArray [])), r0)) else (bif ((true && (decide ((0 : Int) ≤ a1))) && (decide (a1 ≤ ((List.length a3) : Int)))) then ((g36 (List.take ((Int.toNat a1) - (0 : Nat)) (List.drop (0 : Nat) a3))).bind fun r1 => (ret (r1.1, r1.2))) else none)))
theorem c_bind {β : Type} {g35 : transomref09_Fits.G} {g36 : transomref05_Row.G}  {a0 : ByteArray} {a1 : Int} {a2 : List D_api_Col} {a3 : List D_api_Value} {ret : (ByteArray × Int) → Option β} : c g35 g36  a0 a1 a2 a3 ret = (c g35 g36  a0 a1 a2 a3 some).bind ret := by
  simp only [c, bif_bind, sum_bind, oa, os, on, ofs]
theorem ev {g35 : transomref09_Fits.G} {g36 : transomref05_Row.G}  {a0 : ByteArray} {a1 : Int} {a2 : List D_api_Col} {a3 : List D_api_Value} : evAt (env g35 g36 ) [] [0, 1] [.v (.agg [(.d .str a0), (.d (.int .i64) a1), (.d (.sl T_api_Col) a2)]), .v (.one (.d (.sl T_api_Value) a3))] [] some = c g35 g36  a0 a1 a2 a3 (fun r => some ⟨.tup [(.one (.d .str r.1)), (.one (.d (.int .i64) r.2))], []⟩) := by
  kernel_rfl
def f (k : Nat) (a0 : ByteArray) (a1 : Int) (a2 : List D_api_Col) (a3 : List D_api_Value) : Option (ByteArray × Int) := c (transomref09_Fits.f k) (transomref05_Row.f k)  a0 a1 a2 a3 some
theorem is {g35 : transomref09_Fits.G} {g36 : transomref05_Row.G}  : FnIs (env g35 g36 ) 26 f26 := ⟨func26, rfl, rfl, rfl, by decide⟩
theorem envok {g35 : transomref09_Fits.G} {g36 : transomref05_Row.G}  (h35 : CtOK prog 35 (transomref09_Fits.ct g35)) (h36 : CtOK prog 36 (transomref05_Row.ct g36)) : EnvOK (env g35 g36 ).toEnv := by
  intro f c h
  simp only [env] at h
  split at h
  · rename_i e; subst e; cases h; exact h35
  split at h
  · rename_i e; subst e; cases h; exact h36
  simp at h
noncomputable abbrev E (k : Nat) : FEnv := env (transomref09_Fits.f k) (transomref05_Row.f k) 
theorem hE (k : Nat) : EnvOK (E k).toEnv := envok (transomref09_Fits.ok k) (transomref05_Row.ok k)
theorem ok (k : Nat) : CtOK prog 26 (ct (f k)) := by
  refine ct_of_ev (E := E k) is (hE k) (fun s hs => by simp [E, env] at hs) rfl ?_
  intro tvs blks res h
  simp only [ct] at h
  split at h
  · exact (ev.trans c_bind).trans h
  · simp at h
end transomref09_Key
namespace transomref12_Put
abbrev G : Type := ByteArray → Int → (List D_api_Col) → (List D_api_Line) → (List D_api_Value) → Option (ByteArray × Int × (List D_api_Col) × (List D_api_Line) × Bool × Int)
def ct (g : G) : Ct where
  nin := 0
  mv := []
  F := fun tvs blks {β} K => match tvs, blks with
    | [.v (.agg [(.d .str a0), (.d (.int .i64) a1), (.d (.sl (.pair .str (.pair (.int .i64) (.pair .bool (.pair (.pair (.int .i64) (.pair (.int .i64) (.pair (.int .u64) (.pair .str .unit)))) .unit))))) a2), (.d (.sl (.pair .str (.pair (.sl (.pair (.int .i64) (.pair (.int .i64) (.pair (.int .u64) (.pair .str .unit))))) .unit))) a3)]), .v (.one (.d (.sl (.pair (.int .i64) (.pair (.int .i64) (.pair (.int .u64) (.pair .str .unit))))) a4))], [] => (g a0 a1 a2 a3 a4).bind fun r => K ⟨.tup [(.agg [(.d .str r.1), (.d (.int .i64) r.2.1), (.d (.sl T_api_Col) r.2.2.1), (.d (.sl T_api_Line) r.2.2.2.1)]), (.one (.d .bool r.2.2.2.2.1)), (.one (.d (.int .i64) r.2.2.2.2.2))], []⟩
    | _, _ => none
  legit := fun _ _ K _ h => by split at h; exact (legit1 K h :); simp at h
abbrev S0 : Type := Int → Bool → ByteArray → Int → (List D_api_Col) → (List D_api_Line) → ByteArray → Int → (List D_api_Line) → Option (ByteArray × Int × (List D_api_Col) × (List D_api_Line) × Bool × Int)
def sg0 (g : S0) : Seg where
  path := [1, 1, 1, 1, 1, 1, 1, 1]
  prep := []
  keep := [2, 4, 9, 10, 11]
  F := fun tvs blks {β} K => match tvs, blks with
    | [.v (.one (.ptr 0 0)), .v (.one (.ptr 1 0)), .v (.one (.d (.int .i64) x0)), .v (.one (.d .bool x1)), .v (.one (.own 2))], [some (.box [(.d .str x2), (.d (.int .i64) x3), (.d (.sl (.pair .str (.pair (.int .i64) (.pair .bool (.pair (.pair (.int .i64) (.pair (.int .i64) (.pair (.int .u64) (.pair .str .unit)))) .unit))))) x4), (.d (.sl (.pair .str (.pair (.sl (.pair (.int .i64) (.pair (.int .i64) (.pair (.int .u64) (.pair .str .unit))))) .unit))) x5)]), some (.box [(.d .str x6), (.d (.int .i64) x7), (.raw (.slice none 0 0)), (.raw (.slice none 0 0))]), some (.own (.pair .str (.pair (.sl (.pair (.int .i64) (.pair (.int .i64) (.pair (.int .u64) (.pair .str .unit))))) .unit)) false x8)] => (g x0 x1 x2 x3 x4 x5 x6 x7 x8).bind fun r => K ⟨.tup [(.agg [(.d .str r.1), (.d (.int .i64) r.2.1), (.d (.sl T_api_Col) r.2.2.1), (.d (.sl T_api_Line) r.2.2.2.1)]), (.one (.d .bool r.2.2.2.2.1)), (.one (.d (.int .i64) r.2.2.2.2.2))], []⟩
    | _, _ => none
  legit := fun _ _ K _ h => by split at h; exact (legit1 K h :); simp at h
noncomputable def env (g13 : transomref12_Find.G) (g26 : transomref09_Key.G) (s0 : S0) : FEnv := { P := prog, ct := fun m => if m = 13 then some (transomref12_Find.ct g13) else if m = 26 then some (transomref09_Key.ct g26) else none, N := 55, body := f9.body.getD .skip, rvs := [.cell 4 27, .tmp 5, .tmp 6], rts := [27, 4, 3], nin := 0, rmv := [], segs := [sg0 s0] }
def c {β : Type} (g13 : transomref12_Find.G) (g26 : transomref09_Key.G) (s0 : S0) (a0 : ByteArray) (a1 : Int) (a2 : List D_api_Col) (a3 : List D_api_Line) (a4 : List D_api_Value) (ret : (ByteArray × Int × (List D_api_Col) × (List D_api_Line) × Bool × Int) → Option β) : Option β := ((g26 a0 a1 a2 a4).bind fun r0 => (bif (r0.2 != (0 : Int)) then (ret (a0, a1, a2, a3, false, r0.2)) else ((g13 a0 a1 a2 a3 r0.1).bind fun r1 => (bif ((true && (decide ((0 : Int) ≤ r1.1))) && (decide (r1.1 ≤ ((List.length a3) : Int)))) then (bif (decide ((((0 : Nat) + (List.length (List.take ((Int.toNat r1.1) - (0 : Nat)) (List.drop (0 : Nat) a3)))) * (40 : Nat)) ≤ (35184372088832 : Nat))) then (bif (decide ((((List.length ([] ++ (List.take ((Int.toNat r1.1) - (0 : Nat)) (List.drop (0 : Nat) a3)))) + (1 : Nat)) * (40 : Nat)) ≤ (35184372088832 : Nat))) then (bif r1.2 then ((s0 (IntKind.wrap IntKind.i64 (r1.1 + (1 : Int))) r1.2 a0 a1 a2 a3 (ByteArray.mk (List.toArray [])) (0 : Int) (([] ++ (List.take ((Int.toNat r1.1) - (0 : Nat)) (List.drop (0 : Nat) a3))) ++ [(r0.1, (a4, ()))])).bind ret) else ((s0 r1.1 r1.2 a0 a1 a2 a3 (ByteArray.mk (List.toArray [])) (0 : Int) (([] ++ (List.take ((Int.toNat r1.1) - (0 : Nat)) (List.drop (0 : Nat) a3))) ++ [(r0.1, (a4, ()))])).bind ret)) else none) else none) else none))))
def s0c {β : Type} (g13 : transomref12_Find.G) (g26 : transomref09_Key.G) (s0 : S0) (x0 : Int) (x1 : Bool) (x2 : ByteArray) (x3 : Int) (x4 : List D_api_Col) (x5 : List D_api_Line) (x6 : ByteArray) (x7 : Int) (x8 : List D_api_Line) (ret : (ByteArray × Int × (List D_api_Col) × (List D_api_Line) × Bool × Int) → Option β) : Option β := (bif (((decide ((0 : Int) ≤ x0)) && (decide (x0 ≤ ((List.length x5) : Int)))) && (decide (((List.length x5) : Int) ≤ ((List.length x5) : Int)))) then (bif (decide ((((List.length x8) + (List.length (List.take ((Int.toNat ((List.length x5) : Int)) - (Int.toNat x0)) (List.drop (Int.toNat x0) x5)))) * (40 : Nat)) ≤ (35184372088832 : Nat))) then (ret (x2, x3, x4, (x8 ++ (List.take ((Int.toNat ((List.length x5) : Int)) - (Int.toNat x0)) (List.drop (Int.toNat x0) x5))), (!x1), (0 : Int))) else none) else none)
theorem c_bind {β : Type} {g13 : transomref12_Find.G} {g26 : transomref09_Key.G} {s0 : S0} {a0 : ByteArray} {a1 : Int} {a2 : List D_api_Col} {a3 : List D_api_Line} {a4 : List D_api_Value} {ret : (ByteArray × Int × (List D_api_Col) × (List D_api_Line) × Bool × Int) → Option β} : c g13 g26 s0 a0 a1 a2 a3 a4 ret = (c g13 g26 s0 a0 a1 a2 a3 a4 some).bind ret := by
  simp only [c, bif_bind, sum_bind, oa, os, on, ofs]
theorem s0c_bind {β : Type} {g13 : transomref12_Find.G} {g26 : transomref09_Key.G} {s0 : S0} {x0 : Int} {x1 : Bool} {x2 : ByteArray} {x3 : Int} {x4 : List D_api_Col} {x5 : List D_api_Line} {x6 : ByteArray} {x7 : Int} {x8 : List D_api_Line} {ret : (ByteArray × Int × (List D_api_Col) × (List D_api_Line) × Bool × Int) → Option β} : s0c g13 g26 s0 x0 x1 x2 x3 x4 x5 x6 x7 x8 ret = (s0c g13 g26 s0 x0 x1 x2 x3 x4 x5 x6 x7 x8 some).bind ret := by
  simp only [s0c, bif_bind, sum_bind, oa, os, on, ofs]
theorem ev {g13 : transomref12_Find.G} {g26 : transomref09_Key.G} {s0 : S0} {a0 : ByteArray} {a1 : Int} {a2 : List D_api_Col} {a3 : List D_api_Line} {a4 : List D_api_Value} : evAt (env g13 g26 s0) [] [0, 1] [.v (.agg [(.d .str a0), (.d (.int .i64) a1), (.d (.sl T_api_Col) a2), (.d (.sl T_api_Line) a3)]), .v (.one (.d (.sl T_api_Value) a4))] [] some = c g13 g26 s0 a0 a1 a2 a3 a4 (fun r => some ⟨.tup [(.agg [(.d .str r.1), (.d (.int .i64) r.2.1), (.d (.sl T_api_Col) r.2.2.1), (.d (.sl T_api_Line) r.2.2.2.1)]), (.one (.d .bool r.2.2.2.2.1)), (.one (.d (.int .i64) r.2.2.2.2.2))], []⟩) := by
  kernel_rfl
theorem s0_ev {g13 : transomref12_Find.G} {g26 : transomref09_Key.G} {s0 : S0} {x0 : Int} {x1 : Bool} {x2 : ByteArray} {x3 : Int} {x4 : List D_api_Col} {x5 : List D_api_Line} {x6 : ByteArray} {x7 : Int} {x8 : List D_api_Line} : evAt (env g13 g26 s0) [1, 1, 1, 1, 1, 1, 1, 1] [2, 4, 9, 10, 11] [.v (.one (.ptr 0 0)), .v (.one (.ptr 1 0)), .v (.one (.d (.int .i64) x0)), .v (.one (.d .bool x1)), .v (.one (.own 2))] [some (.box [(.d .str x2), (.d (.int .i64) x3), (.d (.sl T_api_Col) x4), (.d (.sl T_api_Line) x5)]), some (.box [(.d .str x6), (.d (.int .i64) x7), (.raw (.slice none 0 0)), (.raw (.slice none 0 0))]), some (.own T_api_Line false x8)] some = s0c g13 g26 s0 x0 x1 x2 x3 x4 x5 x6 x7 x8 (fun r => some ⟨.tup [(.agg [(.d .str r.1), (.d (.int .i64) r.2.1), (.d (.sl T_api_Col) r.2.2.1), (.d (.sl T_api_Line) r.2.2.2.1)]), (.one (.d .bool r.2.2.2.2.1)), (.one (.d (.int .i64) r.2.2.2.2.2))], []⟩) := by
  kernel_rfl
def s0 : Nat → Int → Bool → ByteArray → Int → (List D_api_Col) → (List D_api_Line) → ByteArray → Int → (List D_api_Line) → Option (ByteArray × Int × (List D_api_Col) × (List D_api_Line) × Bool × Int)
  | 0, _, _, _, _, _, _, _, _, _ => none
  | k + 1, x0, x1, x2, x3, x4, x5, x6, x7, x8 => s0c (transomref12_Find.f k) (transomref09_Key.f k) (s0 k) x0 x1 x2 x3 x4 x5 x6 x7 x8 some
def f (k : Nat) (a0 : ByteArray) (a1 : Int) (a2 : List D_api_Col) (a3 : List D_api_Line) (a4 : List D_api_Value) : Option (ByteArray × Int × (List D_api_Col) × (List D_api_Line) × Bool × Int) := c (transomref12_Find.f k) (transomref09_Key.f k) (s0 k) a0 a1 a2 a3 a4 some
theorem is {g13 : transomref12_Find.G} {g26 : transomref09_Key.G} {s0 : S0} : FnIs (env g13 g26 s0) 9 f9 := ⟨func9, rfl, rfl, rfl, by decide⟩
theorem envok {g13 : transomref12_Find.G} {g26 : transomref09_Key.G} {s0 : S0} (h13 : CtOK prog 13 (transomref12_Find.ct g13)) (h26 : CtOK prog 26 (transomref09_Key.ct g26)) : EnvOK (env g13 g26 s0).toEnv := by
  intro f c h
  simp only [env] at h
  split at h
  · rename_i e; subst e; cases h; exact h13
  split at h
  · rename_i e; subst e; cases h; exact h26
  simp at h
noncomputable abbrev E (k : Nat) : FEnv := env (transomref12_Find.f k) (transomref09_Key.f k) (s0 k)
theorem hE (k : Nat) : EnvOK (E k).toEnv := envok (transomref12_Find.ok k) (transomref09_Key.ok k)
theorem segs_ok : ∀ k, ∀ s ∈ (E k).segs, SegOK (E k) f9 s
  | 0 => by
    intro s hs
    simp only [E, env, List.mem_cons, List.not_mem_nil, or_false] at hs
    rcases hs with rfl
    · intro tvs blks res h; exfalso; simp only [sg0] at h; split at h <;> simp [s0] at h
  | k + 1 => by
    intro s hs
    simp only [E, env, List.mem_cons, List.not_mem_nil, or_false] at hs
    rcases hs with rfl
    · refine seg_of_ev (E := E k) (hE k) ⟨is.rvs⟩ (segs_ok k) ?_
      intro tvs blks res h
      simp only [sg0] at h
      split at h
      · exact (s0_ev.trans s0c_bind).trans h
      · simp at h
theorem ok (k : Nat) : CtOK prog 9 (ct (f k)) := by
  refine ct_of_ev (E := E k) is (hE k) (segs_ok k) rfl ?_
  intro tvs blks res h
  simp only [ct] at h
  split at h
  · exact (ev.trans c_bind).trans h
  · simp at h
end transomref12_Put
namespace transomref12_Delete
abbrev G : Type := ByteArray → Int → (List D_api_Col) → (List D_api_Line) → ByteArray → Option (ByteArray × Int × (List D_api_Col) × (List D_api_Line) × Bool)
def ct (g : G) : Ct where
  nin := 0
  mv := []
  F := fun tvs blks {β} K => match tvs, blks with
    | [.v (.agg [(.d .str a0), (.d (.int .i64) a1), (.d (.sl (.pair .str (.pair (.int .i64) (.pair .bool (.pair (.pair (.int .i64) (.pair (.int .i64) (.pair (.int .u64) (.pair .str .unit)))) .unit))))) a2), (.d (.sl (.pair .str (.pair (.sl (.pair (.int .i64) (.pair (.int .i64) (.pair (.int .u64) (.pair .str .unit))))) .unit))) a3)]), .v (.one (.d .str a4))], [] => (g a0 a1 a2 a3 a4).bind fun r => K ⟨.tup [(.agg [(.d .str r.1), (.d (.int .i64) r.2.1), (.d (.sl T_api_Col) r.2.2.1), (.d (.sl T_api_Line) r.2.2.2.1)]), (.one (.d .bool r.2.2.2.2))], []⟩
    | _, _ => none
  legit := fun _ _ K _ h => by split at h; exact (legit1 K h :); simp at h
noncomputable def env (g13 : transomref12_Find.G)  : FEnv := { P := prog, ct := fun m => if m = 13 then some (transomref12_Find.ct g13) else none, N := 34, body := f11.body.getD .skip, rvs := [.cell 4 27, .tmp 5], rts := [27, 4], nin := 0, rmv := [], segs := [] }
def c {β : Type} (g13 : transomref12_Find.G)  (a0 : ByteArray) (a1 : Int) (a2 : List D_api_Col) (a3 : List D_api_Line) (a4 : ByteArray) (ret : (ByteArray × Int × (List D_api_Col) × (List D_api_Line) × Bool) → Option β) : Option β := ((g13 a0 a1 a2 a3 a4).bind fun r0 => (bif (!r0.2) then (ret (a0, a1, a2, a3, false)) else (bif ((true && (decide ((0 : Int) ≤ r0.1))) && (decide (r0.1 ≤ ((List.length a3) : Int)))) then (bif (decide ((((0 : Nat) + (List.length (List.take ((Int.toNat r0.1) - (0 : Nat)) (List.drop (0 : Nat) a3)))) * (40 : Nat)) ≤ (35184372088832 : Nat))) then (bif (((decide ((0 : Int) ≤ (IntKind.wrap IntKind.i64 (r0.1 + (1 : Int))))) && (decide ((IntKind.wrap IntKind.i64 (r0.1 + (1 : Int))) ≤ ((List.length a3) : Int)))) && (decide (((List.length a3) : Int) ≤ ((List.length a3) : Int)))) then (bif (decide ((((List.length ([] ++ (List.take ((Int.toNat r0.1) - (0 : Nat)) (List.drop (0 : Nat) a3)))) + (List.length (List.take ((Int.toNat ((List.length a3) : Int)) - (Int.toNat (IntKind.wrap IntKind.i64 (r0.1 + (1 : Int))))) (List.drop (Int.toNat (IntKind.wrap IntKind.i64 (r0.1 + (1 : Int)))) a3)))) * (40 : Nat)) ≤ (35184372088832 : Nat))) then (ret (a0, a1, a2, (([] ++ (List.take ((Int.toNat r0.1) - (0 : Nat)) (List.drop (0 : Nat) a3))) ++ (List.take ((Int.toNat ((List.length a3) : Int)) - (Int.toNat (IntKind.wrap IntKind.i64 (r0.1 + (1 : Int))))) (List.drop (Int.toNat (IntKind.wrap IntKind.i64 (r0.1 + (1 : Int)))) a3))), true)) else none) else none) else none) else none)))
theorem c_bind {β : Type} {g13 : transomref12_Find.G}  {a0 : ByteArray} {a1 : Int} {a2 : List D_api_Col} {a3 : List D_api_Line} {a4 : ByteArray} {ret : (ByteArray × Int × (List D_api_Col) × (List D_api_Line) × Bool) → Option β} : c g13  a0 a1 a2 a3 a4 ret = (c g13  a0 a1 a2 a3 a4 some).bind ret := by
  simp only [c, bif_bind, sum_bind, oa, os, on, ofs]
theorem ev {g13 : transomref12_Find.G}  {a0 : ByteArray} {a1 : Int} {a2 : List D_api_Col} {a3 : List D_api_Line} {a4 : ByteArray} : evAt (env g13 ) [] [0, 1] [.v (.agg [(.d .str a0), (.d (.int .i64) a1), (.d (.sl T_api_Col) a2), (.d (.sl T_api_Line) a3)]), .v (.one (.d .str a4))] [] some = c g13  a0 a1 a2 a3 a4 (fun r => some ⟨.tup [(.agg [(.d .str r.1), (.d (.int .i64) r.2.1), (.d (.sl T_api_Col) r.2.2.1), (.d (.sl T_api_Line) r.2.2.2.1)]), (.one (.d .bool r.2.2.2.2))], []⟩) := by
  kernel_rfl
def f (k : Nat) (a0 : ByteArray) (a1 : Int) (a2 : List D_api_Col) (a3 : List D_api_Line) (a4 : ByteArray) : Option (ByteArray × Int × (List D_api_Col) × (List D_api_Line) × Bool) := c (transomref12_Find.f k)  a0 a1 a2 a3 a4 some
theorem is {g13 : transomref12_Find.G}  : FnIs (env g13 ) 11 f11 := ⟨func11, rfl, rfl, rfl, by decide⟩
theorem envok {g13 : transomref12_Find.G}  (h13 : CtOK prog 13 (transomref12_Find.ct g13)) : EnvOK (env g13 ).toEnv := by
  intro f c h
  simp only [env] at h
  split at h
  · rename_i e; subst e; cases h; exact h13
  simp at h
noncomputable abbrev E (k : Nat) : FEnv := env (transomref12_Find.f k) 
theorem hE (k : Nat) : EnvOK (E k).toEnv := envok (transomref12_Find.ok k)
theorem ok (k : Nat) : CtOK prog 11 (ct (f k)) := by
  refine ct_of_ev (E := E k) is (hE k) (fun s hs => by simp [E, env] at hs) rfl ?_
  intro tvs blks res h
  simp only [ct] at h
  split at h
  · exact (ev.trans c_bind).trans h
  · simp at h
end transomref12_Delete
namespace transomref04_Same
abbrev G : Type := Int → Int → Int → ByteArray → Int → Int → Int → ByteArray → Option Bool
def ct (g : G) : Ct where
  nin := 0
  mv := []
  F := fun tvs blks {β} K => match tvs, blks with
    | [.v (.agg [(.d (.int .i64) a0), (.d (.int .i64) a1), (.d (.int .u64) a2), (.d .str a3)]), .v (.agg [(.d (.int .i64) a4), (.d (.int .i64) a5), (.d (.int .u64) a6), (.d .str a7)])], [] => (g a0 a1 a2 a3 a4 a5 a6 a7).bind fun r => K ⟨.v (.one (.d .bool r)), []⟩
    | _, _ => none
  legit := fun _ _ K _ h => by split at h; exact (legit1 K h :); simp at h
noncomputable def env   : FEnv := { P := prog, ct := fun m => none, N := 31, body := f72.body.getD .skip, rvs := [.tmp 4], rts := [4], nin := 0, rmv := [], segs := [] }
def c {β : Type}   (a0 : Int) (a1 : Int) (a2 : Int) (a3 : ByteArray) (a4 : Int) (a5 : Int) (a6 : Int) (a7 : ByteArray) (ret : Bool → Option β) : Option β := (bif (a0 == a4) then (bif (a1 == a5) then (bif (a2 == a6) then (ret (((ByteArray.toList a3) == (ByteArray.toList a7)))) else (ret (false))) else (ret (false))) else (ret (false)))
theorem c_bind {β : Type}   {a0 : Int} {a1 : Int} {a2 : Int} {a3 : ByteArray} {a4 : Int} {a5 : Int} {a6 : Int} {a7 : ByteArray} {ret : Bool → Option β} : c   a0 a1 a2 a3 a4 a5 a6 a7 ret = (c   a0 a1 a2 a3 a4 a5 a6 a7 some).bind ret := by
  simp only [c, bif_bind, sum_bind, oa, os, on, ofs]
theorem ev   {a0 : Int} {a1 : Int} {a2 : Int} {a3 : ByteArray} {a4 : Int} {a5 : Int} {a6 : Int} {a7 : ByteArray} : evAt (env  ) [] [0, 1] [.v (.agg [(.d (.int .i64) a0), (.d (.int .i64) a1), (.d (.int .u64) a2), (.d .str a3)]), .v (.agg [(.d (.int .i64) a4), (.d (.int .i64) a5), (.d (.int .u64) a6), (.d .str a7)])] [] some = c   a0 a1 a2 a3 a4 a5 a6 a7 (fun r => some ⟨.v (.one (.d .bool r)), []⟩) := by
  kernel_rfl
def f (k : Nat) (a0 : Int) (a1 : Int) (a2 : Int) (a3 : ByteArray) (a4 : Int) (a5 : Int) (a6 : Int) (a7 : ByteArray) : Option Bool := c   a0 a1 a2 a3 a4 a5 a6 a7 some
theorem is   : FnIs (env  ) 72 f72 := ⟨func72, rfl, rfl, rfl, by decide⟩
theorem envok    : EnvOK (env  ).toEnv := by
  intro f c h
  simp only [env] at h
  simp at h
noncomputable abbrev E (k : Nat) : FEnv := env  
theorem hE (k : Nat) : EnvOK (E k).toEnv := envok 
theorem ok (k : Nat) : CtOK prog 72 (ct (f k)) := by
  refine ct_of_ev (E := E k) is (hE k) (fun s hs => by simp [E, env] at hs) rfl ?_
  intro tvs blks res h
  simp only [ct] at h
  split at h
  · exact (ev.trans c_bind).trans h
  · simp at h
end transomref04_Same
namespace transomref09_SameCol
abbrev G : Type := ByteArray → Int → Bool → Int → Int → Int → ByteArray → ByteArray → Int → Bool → Int → Int → Int → ByteArray → Option Bool
def ct (g : G) : Ct where
  nin := 0
  mv := []
  F := fun tvs blks {β} K => match tvs, blks with
    | [.v (.agg [(.d .str a0), (.d (.int .i64) a1), (.d .bool a2), (.d (.int .i64) a3), (.d (.int .i64) a4), (.d (.int .u64) a5), (.d .str a6)]), .v (.agg [(.d .str a7), (.d (.int .i64) a8), (.d .bool a9), (.d (.int .i64) a10), (.d (.int .i64) a11), (.d (.int .u64) a12), (.d .str a13)])], [] => (g a0 a1 a2 a3 a4 a5 a6 a7 a8 a9 a10 a11 a12 a13).bind fun r => K ⟨.v (.one (.d .bool r)), []⟩
    | _, _ => none
  legit := fun _ _ K _ h => by split at h; exact (legit1 K h :); simp at h
noncomputable def env (g72 : transomref04_Same.G)  : FEnv := { P := prog, ct := fun m => if m = 72 then some (transomref04_Same.ct g72) else none, N := 31, body := f48.body.getD .skip, rvs := [.tmp 4], rts := [4], nin := 0, rmv := [], segs := [] }
def c {β : Type} (g72 : transomref04_Same.G)  (a0 : ByteArray) (a1 : Int) (a2 : Bool) (a3 : Int) (a4 : Int) (a5 : Int) (a6 : ByteArray) (a7 : ByteArray) (a8 : Int) (a9 : Bool) (a10 : Int) (a11 : Int) (a12 : Int) (a13 : ByteArray) (ret : Bool → Option β) : Option β := (bif ((ByteArray.toList a0) == (ByteArray.toList a7)) then (bif (a1 == a8) then (bif (a2 == a9) then ((g72 a3 a4 a5 a6 a10 a11 a12 a13).bind fun r0 => (ret (r0))) else (ret (false))) else (ret (false))) else (ret (false)))
theorem c_bind {β : Type} {g72 : transomref04_Same.G}  {a0 : ByteArray} {a1 : Int} {a2 : Bool} {a3 : Int} {a4 : Int} {a5 : Int} {a6 : ByteArray} {a7 : ByteArray} {a8 : Int} {a9 : Bool} {a10 : Int} {a11 : Int} {a12 : Int} {a13 : ByteArray} {ret : Bool → Option β} : c g72  a0 a1 a2 a3 a4 a5 a6 a7 a8 a9 a10 a11 a12 a13 ret = (c g72  a0 a1 a2 a3 a4 a5 a6 a7 a8 a9 a10 a11 a12 a13 some).bind ret := by
  simp only [c, bif_bind, sum_bind, oa, os, on, ofs]
theorem ev {g72 : transomref04_Same.G}  {a0 : ByteArray} {a1 : Int} {a2 : Bool} {a3 : Int} {a4 : Int} {a5 : Int} {a6 : ByteArray} {a7 : ByteArray} {a8 : Int} {a9 : Bool} {a10 : Int} {a11 : Int} {a12 : Int} {a13 : ByteArray} : evAt (env g72 ) [] [0, 1] [.v (.agg [(.d .str a0), (.d (.int .i64) a1), (.d .bool a2), (.d (.int .i64) a3), (.d (.int .i64) a4), (.d (.int .u64) a5), (.d .str a6)]), .v (.agg [(.d .str a7), (.d (.int .i64) a8), (.d .bool a9), (.d (.int .i64) a10), (.d (.int .i64) a11), (.d (.int .u64) a12), (.d .str a13)])] [] some = c g72  a0 a1 a2 a3 a4 a5 a6 a7 a8 a9 a10 a11 a12 a13 (fun r => some ⟨.v (.one (.d .bool r)), []⟩) := by
  kernel_rfl
def f (k : Nat) (a0 : ByteArray) (a1 : Int) (a2 : Bool) (a3 : Int) (a4 : Int) (a5 : Int) (a6 : ByteArray) (a7 : ByteArray) (a8 : Int) (a9 : Bool) (a10 : Int) (a11 : Int) (a12 : Int) (a13 : ByteArray) : Option Bool := c (transomref04_Same.f k)  a0 a1 a2 a3 a4 a5 a6 a7 a8 a9 a10 a11 a12 a13 some
theorem is {g72 : transomref04_Same.G}  : FnIs (env g72 ) 48 f48 := ⟨func48, rfl, rfl, rfl, by decide⟩
theorem envok {g72 : transomref04_Same.G}  (h72 : CtOK prog 72 (transomref04_Same.ct g72)) : EnvOK (env g72 ).toEnv := by
  intro f c h
  simp only [env] at h
  split at h
  · rename_i e; subst e; cases h; exact h72
  simp at h
noncomputable abbrev E (k : Nat) : FEnv := env (transomref04_Same.f k) 
theorem hE (k : Nat) : EnvOK (E k).toEnv := envok (transomref04_Same.ok k)
theorem ok (k : Nat) : CtOK prog 48 (ct (f k)) := by
  refine ct_of_ev (E := E k) is (hE k) (fun s hs => by simp [E, env] at hs) rfl ?_
  intro tvs blks res h
  simp only [ct] at h
  split at h
  · exact (ev.trans c_bind).trans h
  · simp at h
end transomref09_SameCol
namespace transomref09_SameCols
abbrev G : Type := (List D_api_Col) → (List D_api_Col) → Option Bool
def ct (g : G) : Ct where
  nin := 0
  mv := []
  F := fun tvs blks {β} K => match tvs, blks with
    | [.v (.one (.d (.sl (.pair .str (.pair (.int .i64) (.pair .bool (.pair (.pair (.int .i64) (.pair (.int .i64) (.pair (.int .u64) (.pair .str .unit)))) .unit))))) a0)), .v (.one (.d (.sl (.pair .str (.pair (.int .i64) (.pair .bool (.pair (.pair (.int .i64) (.pair (.int .i64) (.pair (.int .u64) (.pair .str .unit)))) .unit))))) a1))], [] => (g a0 a1).bind fun r => K ⟨.v (.one (.d .bool r)), []⟩
    | _, _ => none
  legit := fun _ _ K _ h => by split at h; exact (legit1 K h :); simp at h
abbrev S0 : Type := (List D_api_Col) → (List D_api_Col) → Int → Option Bool
def sg0 (g : S0) : Seg where
  path := [4, 1, 0, 1, 1]
  prep := []
  keep := [0, 1, 5]
  F := fun tvs blks {β} K => match tvs, blks with
    | [.v (.one (.d (.sl (.pair .str (.pair (.int .i64) (.pair .bool (.pair (.pair (.int .i64) (.pair (.int .i64) (.pair (.int .u64) (.pair .str .unit)))) .unit))))) x0)), .v (.one (.d (.sl (.pair .str (.pair (.int .i64) (.pair .bool (.pair (.pair (.int .i64) (.pair (.int .i64) (.pair (.int .u64) (.pair .str .unit)))) .unit))))) x1)), .v (.one (.d (.int .i64) x2))], [] => (g x0 x1 x2).bind fun r => K ⟨.v (.one (.d .bool r)), []⟩
    | _, _ => none
  legit := fun _ _ K _ h => by split at h; exact (legit1 K h :); simp at h
noncomputable def env (g48 : transomref09_SameCol.G) (s0 : S0) : FEnv := { P := prog, ct := fun m => if m = 48 then some (transomref09_SameCol.ct g48) else none, N := 27, body := f37.body.getD .skip, rvs := [.tmp 4], rts := [4], nin := 0, rmv := [], segs := [sg0 s0] }
def c {β : Type} (g48 : transomref09_SameCol.G) (s0 : S0) (a0 : List D_api_Col) (a1 : List D_api_Col) (ret : Bool → Option β) : Option β := (bif (((List.length a0) : Int) != ((List.length a1) : Int)) then (ret (false)) else ((s0 a0 a1 (0 : Int)).bind ret))
def s0c {β : Type} (g48 : transomref09_SameCol.G) (s0 : S0) (x0 : List D_api_Col) (x1 : List D_api_Col) (x2 : Int) (ret : Bool → Option β) : Option β := (bif (decide (x2 < ((List.length x0) : Int))) then (bif ((decide ((0 : Int) ≤ x2)) && (decide (x2 < ((List.length x0) : Int)))) then (bif ((decide ((0 : Int) ≤ x2)) && (decide (x2 < ((List.length x1) : Int)))) then ((g48 (elem T_api_Col x0 x2).1 (elem T_api_Col x0 x2).2.1 (elem T_api_Col x0 x2).2.2.1 (elem T_api_Col x0 x2).2.2.2.1.1 (elem T_api_Col x0 x2).2.2.2.1.2.1 (elem T_api_Col x0 x2).2.2.2.1.2.2.1 (elem T_api_Col x0 x2).2.2.2.1.2.2.2.1 (elem T_api_Col x1 x2).1 (elem T_api_Col x1 x2).2.1 (elem T_api_Col x1 x2).2.2.1 (elem T_api_Col x1 x2).2.2.2.1.1 (elem T_api_Col x1 x2).2.2.2.1.2.1 (elem T_api_Col x1 x2).2.2.2.1.2.2.1 (elem T_api_Col x1 x2).2.2.2.1.2.2.2.1).bind fun r0 => (bif (!r0) then (ret (false)) else ((s0 x0 x1 (IntKind.wrap IntKind.i64 (x2 + (1 : Int)))).bind ret))) else none) else none) else (ret (true)))
theorem c_bind {β : Type} {g48 : transomref09_SameCol.G} {s0 : S0} {a0 : List D_api_Col} {a1 : List D_api_Col} {ret : Bool → Option β} : c g48 s0 a0 a1 ret = (c g48 s0 a0 a1 some).bind ret := by
  simp only [c, bif_bind, sum_bind, oa, os, on, ofs]
theorem s0c_bind {β : Type} {g48 : transomref09_SameCol.G} {s0 : S0} {x0 : List D_api_Col} {x1 : List D_api_Col} {x2 : Int} {ret : Bool → Option β} : s0c g48 s0 x0 x1 x2 ret = (s0c g48 s0 x0 x1 x2 some).bind ret := by
  simp only [s0c, bif_bind, sum_bind, oa, os, on, ofs]
theorem ev {g48 : transomref09_SameCol.G} {s0 : S0} {a0 : List D_api_Col} {a1 : List D_api_Col} : evAt (env g48 s0) [] [0, 1] [.v (.one (.d (.sl T_api_Col) a0)), .v (.one (.d (.sl T_api_Col) a1))] [] some = c g48 s0 a0 a1 (fun r => some ⟨.v (.one (.d .bool r)), []⟩) := by
  kernel_rfl
theorem s0_ev {g48 : transomref09_SameCol.G} {s0 : S0} {x0 : List D_api_Col} {x1 : List D_api_Col} {x2 : Int} : evAt (env g48 s0) [4, 1, 0, 1, 1] [0, 1, 5] [.v (.one (.d (.sl T_api_Col) x0)), .v (.one (.d (.sl T_api_Col) x1)), .v (.one (.d (.int .i64) x2))] [] some = s0c g48 s0 x0 x1 x2 (fun r => some ⟨.v (.one (.d .bool r)), []⟩) := by
  kernel_rfl
def s0 : Nat → (List D_api_Col) → (List D_api_Col) → Int → Option Bool
  | 0, _, _, _ => none
  | k + 1, x0, x1, x2 => s0c (transomref09_SameCol.f k) (s0 k) x0 x1 x2 some
def f (k : Nat) (a0 : List D_api_Col) (a1 : List D_api_Col) : Option Bool := c (transomref09_SameCol.f k) (s0 k) a0 a1 some
theorem is {g48 : transomref09_SameCol.G} {s0 : S0} : FnIs (env g48 s0) 37 f37 := ⟨func37, rfl, rfl, rfl, by decide⟩
theorem envok {g48 : transomref09_SameCol.G} {s0 : S0} (h48 : CtOK prog 48 (transomref09_SameCol.ct g48)) : EnvOK (env g48 s0).toEnv := by
  intro f c h
  simp only [env] at h
  split at h
  · rename_i e; subst e; cases h; exact h48
  simp at h
noncomputable abbrev E (k : Nat) : FEnv := env (transomref09_SameCol.f k) (s0 k)
theorem hE (k : Nat) : EnvOK (E k).toEnv := envok (transomref09_SameCol.ok k)
theorem segs_ok : ∀ k, ∀ s ∈ (E k).segs, SegOK (E k) f37 s
  | 0 => by
    intro s hs
    simp only [E, env, List.mem_cons, List.not_mem_nil, or_false] at hs
    rcases hs with rfl
    · intro tvs blks res h; exfalso; simp only [sg0] at h; split at h <;> simp [s0] at h
  | k + 1 => by
    intro s hs
    simp only [E, env, List.mem_cons, List.not_mem_nil, or_false] at hs
    rcases hs with rfl
    · refine seg_of_ev (E := E k) (hE k) ⟨is.rvs⟩ (segs_ok k) ?_
      intro tvs blks res h
      simp only [sg0] at h
      split at h
      · exact (s0_ev.trans s0c_bind).trans h
      · simp at h
theorem ok (k : Nat) : CtOK prog 37 (ct (f k)) := by
  refine ct_of_ev (E := E k) is (hE k) (segs_ok k) rfl ?_
  intro tvs blks res h
  simp only [ct] at h
  split at h
  · exact (ev.trans c_bind).trans h
  · simp at h
end transomref09_SameCols
namespace transomref09_Same
abbrev G : Type := ByteArray → Int → (List D_api_Col) → ByteArray → Int → (List D_api_Col) → Option Bool
def ct (g : G) : Ct where
  nin := 0
  mv := []
  F := fun tvs blks {β} K => match tvs, blks with
    | [.v (.agg [(.d .str a0), (.d (.int .i64) a1), (.d (.sl (.pair .str (.pair (.int .i64) (.pair .bool (.pair (.pair (.int .i64) (.pair (.int .i64) (.pair (.int .u64) (.pair .str .unit)))) .unit))))) a2)]), .v (.agg [(.d .str a3), (.d (.int .i64) a4), (.d (.sl (.pair .str (.pair (.int .i64) (.pair .bool (.pair (.pair (.int .i64) (.pair (.int .i64) (.pair (.int .u64) (.pair .str .unit)))) .unit))))) a5)])], [] => (g a0 a1 a2 a3 a4 a5).bind fun r => K ⟨.v (.one (.d .bool r)), []⟩
    | _, _ => none
  legit := fun _ _ K _ h => by split at h; exact (legit1 K h :); simp at h
noncomputable def env (g37 : transomref09_SameCols.G)  : FEnv := { P := prog, ct := fun m => if m = 37 then some (transomref09_SameCols.ct g37) else none, N := 24, body := f27.body.getD .skip, rvs := [.tmp 4], rts := [4], nin := 0, rmv := [], segs := [] }
def c {β : Type} (g37 : transomref09_SameCols.G)  (a0 : ByteArray) (a1 : Int) (a2 : List D_api_Col) (a3 : ByteArray) (a4 : Int) (a5 : List D_api_Col) (ret : Bool → Option β) : Option β := (bif ((ByteArray.toList a0) == (ByteArray.toList a3)) then (bif (a1 == a4) then ((g37 a2 a5).bind fun r0 => (ret (r0))) else (ret (false))) else (ret (false)))
theorem c_bind {β : Type} {g37 : transomref09_SameCols.G}  {a0 : ByteArray} {a1 : Int} {a2 : List D_api_Col} {a3 : ByteArray} {a4 : Int} {a5 : List D_api_Col} {ret : Bool → Option β} : c g37  a0 a1 a2 a3 a4 a5 ret = (c g37  a0 a1 a2 a3 a4 a5 some).bind ret := by
  simp only [c, bif_bind, sum_bind, oa, os, on, ofs]
theorem ev {g37 : transomref09_SameCols.G}  {a0 : ByteArray} {a1 : Int} {a2 : List D_api_Col} {a3 : ByteArray} {a4 : Int} {a5 : List D_api_Col} : evAt (env g37 ) [] [0, 1] [.v (.agg [(.d .str a0), (.d (.int .i64) a1), (.d (.sl T_api_Col) a2)]), .v (.agg [(.d .str a3), (.d (.int .i64) a4), (.d (.sl T_api_Col) a5)])] [] some = c g37  a0 a1 a2 a3 a4 a5 (fun r => some ⟨.v (.one (.d .bool r)), []⟩) := by
  kernel_rfl
def f (k : Nat) (a0 : ByteArray) (a1 : Int) (a2 : List D_api_Col) (a3 : ByteArray) (a4 : Int) (a5 : List D_api_Col) : Option Bool := c (transomref09_SameCols.f k)  a0 a1 a2 a3 a4 a5 some
theorem is {g37 : transomref09_SameCols.G}  : FnIs (env g37 ) 27 f27 := ⟨func27, rfl, rfl, rfl, by decide⟩
theorem envok {g37 : transomref09_SameCols.G}  (h37 : CtOK prog 37 (transomref09_SameCols.ct g37)) : EnvOK (env g37 ).toEnv := by
  intro f c h
  simp only [env] at h
  split at h
  · rename_i e; subst e; cases h; exact h37
  simp at h
noncomputable abbrev E (k : Nat) : FEnv := env (transomref09_SameCols.f k) 
theorem hE (k : Nat) : EnvOK (E k).toEnv := envok (transomref09_SameCols.ok k)
theorem ok (k : Nat) : CtOK prog 27 (ct (f k)) := by
  refine ct_of_ev (E := E k) is (hE k) (fun s hs => by simp [E, env] at hs) rfl ?_
  intro tvs blks res h
  simp only [ct] at h
  split at h
  · exact (ev.trans c_bind).trans h
  · simp at h
end transomref09_Same
end Go.Proofs.YtdbbkmmillnaiaaGreatDoor.Aev
