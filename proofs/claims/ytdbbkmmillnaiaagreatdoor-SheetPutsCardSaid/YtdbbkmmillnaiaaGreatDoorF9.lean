/- By a program of this session (AEV): functions of the program as plain functions, and that the machine does what they say. -/
import Derived.Test.YtdbbkmmillnaiaaGreatDoorTys
import Derived.Test.YtdbbkmmillnaiaaGreatDoorProg
import Derived.Laws.Externs
import Derived.Lib.Bytealg
import Derived.Test.YtdbbkmmillnaiaaGreatDoorF7
import Derived.Test.YtdbbkmmillnaiaaGreatDoorF8
namespace Go.Proofs.YtdbbkmmillnaiaaGreatDoor.Aev
set_option linter.unusedVariables false
set_option linter.unusedSimpArgs false
set_option maxRecDepth 100000
set_option maxHeartbeats 4000000
open Go Go.Proofs.Tryz
namespace transomlaw12_awake
abbrev G : Type := Option Bool
def ct (g : G) : Ct where
  nin := 0
  mv := []
  F := fun tvs blks {β} K => match tvs, blks with
    | [], [] => (g ).bind fun r => K ⟨.v (.one (.d .bool r)), []⟩
    | _, _ => none
  legit := fun _ _ K _ h => by split at h; exact (legit1 K h :); simp at h
abbrev S0 : Type := Bool → Int → Bool → Int → Bool → Int → Bool → Int → Bool → ByteArray → Int → (List D_api_Col) → (List D_api_Line) → Option Bool
abbrev S1 : Type := Bool → Int → Bool → Int → Bool → Int → Bool → Int → ByteArray → Int → (List D_api_Col) → (List D_api_Line) → Option Bool
def sg0 (g : S0) : Seg where
  path := [1, 0, 1, 1, 1, 1, 1, 1]
  prep := []
  keep := [1, 2, 3, 4, 5, 6, 7, 9, 10, 57]
  F := fun tvs blks {β} K => match tvs, blks with
    | [.v (.one (.ptr 0 0)), .v (.one (.d .bool x0)), .v (.one (.d (.int .i64) x1)), .v (.one (.d .bool x2)), .v (.one (.d (.int .i64) x3)), .v (.one (.d .bool x4)), .v (.one (.d (.int .i64) x5)), .v (.one (.d .bool x6)), .v (.one (.d (.int .i64) x7)), .v (.one (.d .bool x8))], [some (.box [(.d .str x9), (.d (.int .i64) x10), (.d (.sl (.pair .str (.pair (.int .i64) (.pair .bool (.pair (.pair (.int .i64) (.pair (.int .i64) (.pair (.int .u64) (.pair .str .unit)))) .unit))))) x11), (.d (.sl (.pair .str (.pair (.sl (.pair (.int .i64) (.pair (.int .i64) (.pair (.int .u64) (.pair .str .unit))))) .unit))) x12)])] => (g x0 x1 x2 x3 x4 x5 x6 x7 x8 x9 x10 x11 x12).bind fun r => K ⟨.v (.one (.d .bool r)), []⟩
    | _, _ => none
  legit := fun _ _ K _ h => by split at h; exact (legit1 K h :); simp at h
def sg1 (g : S1) : Seg where
  path := [1, 1, 1, 1, 1, 1, 1]
  prep := []
  keep := [1, 2, 3, 4, 5, 6, 7, 9, 10]
  F := fun tvs blks {β} K => match tvs, blks with
    | [.v (.one (.ptr 0 0)), .v (.one (.d .bool x0)), .v (.one (.d (.int .i64) x1)), .v (.one (.d .bool x2)), .v (.one (.d (.int .i64) x3)), .v (.one (.d .bool x4)), .v (.one (.d (.int .i64) x5)), .v (.one (.d .bool x6)), .v (.one (.d (.int .i64) x7))], [some (.box [(.d .str x8), (.d (.int .i64) x9), (.d (.sl (.pair .str (.pair (.int .i64) (.pair .bool (.pair (.pair (.int .i64) (.pair (.int .i64) (.pair (.int .u64) (.pair .str .unit)))) .unit))))) x10), (.d (.sl (.pair .str (.pair (.sl (.pair (.int .i64) (.pair (.int .i64) (.pair (.int .u64) (.pair .str .unit))))) .unit))) x11)])] => (g x0 x1 x2 x3 x4 x5 x6 x7 x8 x9 x10 x11).bind fun r => K ⟨.v (.one (.d .bool r)), []⟩
    | _, _ => none
  legit := fun _ _ K _ h => by split at h; exact (legit1 K h :); simp at h
noncomputable def env (g8 : sheet_Put.G) (g10 : sheet_Delete.G) (g12 : sheet_Find.G) (g17 : transomlaw09_Plain.G) (g18 : transomlaw12_row.G) (g19 : sheet_Merge.G) (g20 : sheet_Range.G) (g21 : sheet_Check.G) (s0 : S0) (s1 : S1) : FEnv := { P := prog, ct := fun m => if m = 8 then some (sheet_Put.ct g8) else if m = 10 then some (sheet_Delete.ct g10) else if m = 12 then some (sheet_Find.ct g12) else if m = 17 then some (transomlaw09_Plain.ct g17) else if m = 18 then some (transomlaw12_row.ct g18) else if m = 19 then some (sheet_Merge.ct g19) else if m = 20 then some (sheet_Range.ct g20) else if m = 21 then some (sheet_Check.ct g21) else none, N := 140, body := f7.body.getD .skip, rvs := [.tmp 0], rts := [4], nin := 0, rmv := [], segs := [sg0 s0, sg1 s1] }
def c {β : Type} (g8 : sheet_Put.G) (g10 : sheet_Delete.G) (g12 : sheet_Find.G) (g17 : transomlaw09_Plain.G) (g18 : transomlaw12_row.G) (g19 : sheet_Merge.G) (g20 : sheet_Range.G) (g21 : sheet_Check.G) (s0 : S0) (s1 : S1)  (ret : Bool → Option β) : Option β := (g17.bind fun r0 => ((g18 (3 : Int)).bind fun r1 => ((g8 r0.1 r0.2.1 r0.2.2 [] r1).bind fun r2 => ((g18 (1 : Int)).bind fun r3 => ((g8 r2.1 r2.2.1 r2.2.2.1 r2.2.2.2.1 r3).bind fun r4 => ((g18 (2 : Int)).bind fun r5 => ((g8 r4.1 r4.2.1 r4.2.2.1 r4.2.2.2.1 r5).bind fun r6 => ((g18 (2 : Int)).bind fun r7 => ((g8 r6.1 r6.2.1 r6.2.2.1 r6.2.2.2.1 r7).bind fun r8 => (bif (((List.length r6.2.2.2.1) : Int) != (3 : Int)) then ((s0 r2.2.2.2.2.1 r2.2.2.2.2.2 r4.2.2.2.2.1 r4.2.2.2.2.2 r6.2.2.2.2.1 r6.2.2.2.2.2 r8.2.2.2.2.1 r8.2.2.2.2.2 true r6.1 r6.2.1 r6.2.2.1 r6.2.2.2.1).bind ret) else ((s0 r2.2.2.2.2.1 r2.2.2.2.2.2 r4.2.2.2.2.1 r4.2.2.2.2.2 r6.2.2.2.2.1 r6.2.2.2.2.2 r8.2.2.2.2.1 r8.2.2.2.2.2 (((List.length r8.2.2.2.1) : Int) != (3 : Int)) r6.1 r6.2.1 r6.2.2.1 r6.2.2.2.1).bind ret)))))))))))
def s0c {β : Type} (g8 : sheet_Put.G) (g10 : sheet_Delete.G) (g12 : sheet_Find.G) (g17 : transomlaw09_Plain.G) (g18 : transomlaw12_row.G) (g19 : sheet_Merge.G) (g20 : sheet_Range.G) (g21 : sheet_Check.G) (s0 : S0) (s1 : S1) (x0 : Bool) (x1 : Int) (x2 : Bool) (x3 : Int) (x4 : Bool) (x5 : Int) (x6 : Bool) (x7 : Int) (x8 : Bool) (x9 : ByteArray) (x10 : Int) (x11 : List D_api_Col) (x12 : List D_api_Line) (ret : Bool → Option β) : Option β := (bif x8 then (ret (false)) else ((s1 x0 x1 x2 x3 x4 x5 x6 x7 x9 x10 x11 x12).bind ret))
def s1c {β : Type} (g8 : sheet_Put.G) (g10 : sheet_Delete.G) (g12 : sheet_Find.G) (g17 : transomlaw09_Plain.G) (g18 : transomlaw12_row.G) (g19 : sheet_Merge.G) (g20 : sheet_Range.G) (g21 : sheet_Check.G) (s0 : S0) (s1 : S1) (x0 : Bool) (x1 : Int) (x2 : Bool) (x3 : Int) (x4 : Bool) (x5 : Int) (x6 : Bool) (x7 : Int) (x8 : ByteArray) (x9 : Int) (x10 : List D_api_Col) (x11 : List D_api_Line) (ret : Bool → Option β) : Option β := (bif (true && (decide ((1 : Int) < ((List.length x11) : Int)))) then ((g12 x8 x9 x10 x11 (elem T_api_Line x11 (1 : Int)).1).bind fun r0 => ((g10 x8 x9 x10 x11 (elem T_api_Line x11 (1 : Int)).1).bind fun r1 => ((g19 x8 x9 x10 x11 r1.1 r1.2.1 r1.2.2.1 r1.2.2.2.1).bind fun r2 => (bif x0 then (bif (x1 == (0 : Int)) then (bif x2 then (bif (x3 == (0 : Int)) then (bif x4 then (bif (x5 == (0 : Int)) then (bif (!x6) then (bif (x7 == (0 : Int)) then (bif (r0.1 == (1 : Int)) then (bif r0.2 then (bif (((List.length r1.2.2.2.1) : Int) == (2 : Int)) then (bif r1.2.2.2.2 then (bif (r2.2 == (15 : Int)) then ((g20 x8 x9 x10 x11 (elem T_api_Line x11 (1 : Int)).1 (ByteArray.mk (List.toArray [])) (5 : Int)).bind fun r3 => (bif (((List.length r3) : Int) == (2 : Int)) then ((g21 x8 x9 x10 x11).bind fun r4 => (ret ((r4 == (0 : Int))))) else (ret (false)))) else (ret (false))) else (ret (false))) else (ret (false))) else (ret (false))) else (ret (false))) else (ret (false))) else (ret (false))) else (ret (false))) else (ret (false))) else (ret (false))) else (ret (false))) else (ret (false))) else (ret (false)))))) else none)
theorem c_bind {β : Type} {g8 : sheet_Put.G} {g10 : sheet_Delete.G} {g12 : sheet_Find.G} {g17 : transomlaw09_Plain.G} {g18 : transomlaw12_row.G} {g19 : sheet_Merge.G} {g20 : sheet_Range.G} {g21 : sheet_Check.G} {s0 : S0} {s1 : S1}  {ret : Bool → Option β} : c g8 g10 g12 g17 g18 g19 g20 g21 s0 s1  ret = (c g8 g10 g12 g17 g18 g19 g20 g21 s0 s1  some).bind ret := by
  simp only [c, bif_bind, sum_bind, oa, os, on, ofs]
theorem s0c_bind {β : Type} {g8 : sheet_Put.G} {g10 : sheet_Delete.G} {g12 : sheet_Find.G} {g17 : transomlaw09_Plain.G} {g18 : transomlaw12_row.G} {g19 : sheet_Merge.G} {g20 : sheet_Range.G} {g21 : sheet_Check.G} {s0 : S0} {s1 : S1} {x0 : Bool} {x1 : Int} {x2 : Bool} {x3 : Int} {x4 : Bool} {x5 : Int} {x6 : Bool} {x7 : Int} {x8 : Bool} {x9 : ByteArray} {x10 : Int} {x11 : List D_api_Col} {x12 : List D_api_Line} {ret : Bool → Option β} : s0c g8 g10 g12 g17 g18 g19 g20 g21 s0 s1 x0 x1 x2 x3 x4 x5 x6 x7 x8 x9 x10 x11 x12 ret = (s0c g8 g10 g12 g17 g18 g19 g20 g21 s0 s1 x0 x1 x2 x3 x4 x5 x6 x7 x8 x9 x10 x11 x12 some).bind ret := by
  simp only [s0c, bif_bind, sum_bind, oa, os, on, ofs]
theorem s1c_bind {β : Type} {g8 : sheet_Put.G} {g10 : sheet_Delete.G} {g12 : sheet_Find.G} {g17 : transomlaw09_Plain.G} {g18 : transomlaw12_row.G} {g19 : sheet_Merge.G} {g20 : sheet_Range.G} {g21 : sheet_Check.G} {s0 : S0} {s1 : S1} {x0 : Bool} {x1 : Int} {x2 : Bool} {x3 : Int} {x4 : Bool} {x5 : Int} {x6 : Bool} {x7 : Int} {x8 : ByteArray} {x9 : Int} {x10 : List D_api_Col} {x11 : List D_api_Line} {ret : Bool → Option β} : s1c g8 g10 g12 g17 g18 g19 g20 g21 s0 s1 x0 x1 x2 x3 x4 x5 x6 x7 x8 x9 x10 x11 ret = (s1c g8 g10 g12 g17 g18 g19 g20 g21 s0 s1 x0 x1 x2 x3 x4 x5 x6 x7 x8 x9 x10 x11 some).bind ret := by
  simp only [s1c, bif_bind, sum_bind, oa, os, on, ofs]
theorem ev {g8 : sheet_Put.G} {g10 : sheet_Delete.G} {g12 : sheet_Find.G} {g17 : transomlaw09_Plain.G} {g18 : transomlaw12_row.G} {g19 : sheet_Merge.G} {g20 : sheet_Range.G} {g21 : sheet_Check.G} {s0 : S0} {s1 : S1}  : evAt (env g8 g10 g12 g17 g18 g19 g20 g21 s0 s1) [] [] [] [] some = c g8 g10 g12 g17 g18 g19 g20 g21 s0 s1  (fun r => some ⟨.v (.one (.d .bool r)), []⟩) := by
  kernel_rfl
theorem s0_ev {g8 : sheet_Put.G} {g10 : sheet_Delete.G} {g12 : sheet_Find.G} {g17 : transomlaw09_Plain.G} {g18 : transomlaw12_row.G} {g19 : sheet_Merge.G} {g20 : sheet_Range.G} {g21 : sheet_Check.G} {s0 : S0} {s1 : S1} {x0 : Bool} {x1 : Int} {x2 : Bool} {x3 : Int} {x4 : Bool} {x5 : Int} {x6 : Bool} {x7 : Int} {x8 : Bool} {x9 : ByteArray} {x10 : Int} {x11 : List D_api_Col} {x12 : List D_api_Line} : evAt (env g8 g10 g12 g17 g18 g19 g20 g21 s0 s1) [1, 0, 1, 1, 1, 1, 1, 1] [1, 2, 3, 4, 5, 6, 7, 9, 10, 57] [.v (.one (.ptr 0 0)), .v (.one (.d .bool x0)), .v (.one (.d (.int .i64) x1)), .v (.one (.d .bool x2)), .v (.one (.d (.int .i64) x3)), .v (.one (.d .bool x4)), .v (.one (.d (.int .i64) x5)), .v (.one (.d .bool x6)), .v (.one (.d (.int .i64) x7)), .v (.one (.d .bool x8))] [some (.box [(.d .str x9), (.d (.int .i64) x10), (.d (.sl T_api_Col) x11), (.d (.sl T_api_Line) x12)])] some = s0c g8 g10 g12 g17 g18 g19 g20 g21 s0 s1 x0 x1 x2 x3 x4 x5 x6 x7 x8 x9 x10 x11 x12 (fun r => some ⟨.v (.one (.d .bool r)), []⟩) := by
  kernel_rfl
theorem s1_ev {g8 : sheet_Put.G} {g10 : sheet_Delete.G} {g12 : sheet_Find.G} {g17 : transomlaw09_Plain.G} {g18 : transomlaw12_row.G} {g19 : sheet_Merge.G} {g20 : sheet_Range.G} {g21 : sheet_Check.G} {s0 : S0} {s1 : S1} {x0 : Bool} {x1 : Int} {x2 : Bool} {x3 : Int} {x4 : Bool} {x5 : Int} {x6 : Bool} {x7 : Int} {x8 : ByteArray} {x9 : Int} {x10 : List D_api_Col} {x11 : List D_api_Line} : evAt (env g8 g10 g12 g17 g18 g19 g20 g21 s0 s1) [1, 1, 1, 1, 1, 1, 1] [1, 2, 3, 4, 5, 6, 7, 9, 10] [.v (.one (.ptr 0 0)), .v (.one (.d .bool x0)), .v (.one (.d (.int .i64) x1)), .v (.one (.d .bool x2)), .v (.one (.d (.int .i64) x3)), .v (.one (.d .bool x4)), .v (.one (.d (.int .i64) x5)), .v (.one (.d .bool x6)), .v (.one (.d (.int .i64) x7))] [some (.box [(.d .str x8), (.d (.int .i64) x9), (.d (.sl T_api_Col) x10), (.d (.sl T_api_Line) x11)])] some = s1c g8 g10 g12 g17 g18 g19 g20 g21 s0 s1 x0 x1 x2 x3 x4 x5 x6 x7 x8 x9 x10 x11 (fun r => some ⟨.v (.one (.d .bool r)), []⟩) := by
  kernel_rfl
mutual
def s0 : Nat → Bool → Int → Bool → Int → Bool → Int → Bool → Int → Bool → ByteArray → Int → (List D_api_Col) → (List D_api_Line) → Option Bool
  | 0, _, _, _, _, _, _, _, _, _, _, _, _, _ => none
  | k + 1, x0, x1, x2, x3, x4, x5, x6, x7, x8, x9, x10, x11, x12 => s0c (sheet_Put.f k) (sheet_Delete.f k) (sheet_Find.f k) (transomlaw09_Plain.f k) (transomlaw12_row.f k) (sheet_Merge.f k) (sheet_Range.f k) (sheet_Check.f k) (s0 k) (s1 k) x0 x1 x2 x3 x4 x5 x6 x7 x8 x9 x10 x11 x12 some
def s1 : Nat → Bool → Int → Bool → Int → Bool → Int → Bool → Int → ByteArray → Int → (List D_api_Col) → (List D_api_Line) → Option Bool
  | 0, _, _, _, _, _, _, _, _, _, _, _, _ => none
  | k + 1, x0, x1, x2, x3, x4, x5, x6, x7, x8, x9, x10, x11 => s1c (sheet_Put.f k) (sheet_Delete.f k) (sheet_Find.f k) (transomlaw09_Plain.f k) (transomlaw12_row.f k) (sheet_Merge.f k) (sheet_Range.f k) (sheet_Check.f k) (s0 k) (s1 k) x0 x1 x2 x3 x4 x5 x6 x7 x8 x9 x10 x11 some
end
def f (k : Nat)  : Option Bool := c (sheet_Put.f k) (sheet_Delete.f k) (sheet_Find.f k) (transomlaw09_Plain.f k) (transomlaw12_row.f k) (sheet_Merge.f k) (sheet_Range.f k) (sheet_Check.f k) (s0 k) (s1 k)  some
theorem is {g8 : sheet_Put.G} {g10 : sheet_Delete.G} {g12 : sheet_Find.G} {g17 : transomlaw09_Plain.G} {g18 : transomlaw12_row.G} {g19 : sheet_Merge.G} {g20 : sheet_Range.G} {g21 : sheet_Check.G} {s0 : S0} {s1 : S1} : FnIs (env g8 g10 g12 g17 g18 g19 g20 g21 s0 s1) 7 f7 := ⟨func7, rfl, rfl, rfl, by decide⟩
theorem envok {g8 : sheet_Put.G} {g10 : sheet_Delete.G} {g12 : sheet_Find.G} {g17 : transomlaw09_Plain.G} {g18 : transomlaw12_row.G} {g19 : sheet_Merge.G} {g20 : sheet_Range.G} {g21 : sheet_Check.G} {s0 : S0} {s1 : S1} (h8 : CtOK prog 8 (sheet_Put.ct g8)) (h10 : CtOK prog 10 (sheet_Delete.ct g10)) (h12 : CtOK prog 12 (sheet_Find.ct g12)) (h17 : CtOK prog 17 (transomlaw09_Plain.ct g17)) (h18 : CtOK prog 18 (transomlaw12_row.ct g18)) (h19 : CtOK prog 19 (sheet_Merge.ct g19)) (h20 : CtOK prog 20 (sheet_Range.ct g20)) (h21 : CtOK prog 21 (sheet_Check.ct g21)) : EnvOK (env g8 g10 g12 g17 g18 g19 g20 g21 s0 s1).toEnv := by
  intro f c h
  simp only [env] at h
  split at h
  · rename_i e; subst e; cases h; exact h8
  split at h
  · rename_i e; subst e; cases h; exact h10
  split at h
  · rename_i e; subst e; cases h; exact h12
  split at h
  · rename_i e; subst e; cases h; exact h17
  split at h
  · rename_i e; subst e; cases h; exact h18
  split at h
  · rename_i e; subst e; cases h; exact h19
  split at h
  · rename_i e; subst e; cases h; exact h20
  split at h
  · rename_i e; subst e; cases h; exact h21
  simp at h
noncomputable abbrev E (k : Nat) : FEnv := env (sheet_Put.f k) (sheet_Delete.f k) (sheet_Find.f k) (transomlaw09_Plain.f k) (transomlaw12_row.f k) (sheet_Merge.f k) (sheet_Range.f k) (sheet_Check.f k) (s0 k) (s1 k)
theorem hE (k : Nat) : EnvOK (E k).toEnv := envok (sheet_Put.ok k) (sheet_Delete.ok k) (sheet_Find.ok k) (transomlaw09_Plain.ok k) (transomlaw12_row.ok k) (sheet_Merge.ok k) (sheet_Range.ok k) (sheet_Check.ok k)
theorem segs_ok : ∀ k, ∀ s ∈ (E k).segs, SegOK (E k) f7 s
  | 0 => by
    intro s hs
    simp only [E, env, List.mem_cons, List.not_mem_nil, or_false] at hs
    rcases hs with rfl | rfl
    · intro tvs blks res h; exfalso; simp only [sg0] at h; split at h <;> simp [s0] at h
    · intro tvs blks res h; exfalso; simp only [sg1] at h; split at h <;> simp [s1] at h
  | k + 1 => by
    intro s hs
    simp only [E, env, List.mem_cons, List.not_mem_nil, or_false] at hs
    rcases hs with rfl | rfl
    · refine seg_of_ev (E := E k) (hE k) ⟨is.rvs⟩ (segs_ok k) ?_
      intro tvs blks res h
      simp only [sg0] at h
      split at h
      · exact (s0_ev.trans s0c_bind).trans h
      · simp at h
    · refine seg_of_ev (E := E k) (hE k) ⟨is.rvs⟩ (segs_ok k) ?_
      intro tvs blks res h
      simp only [sg1] at h
      split at h
      · exact (s1_ev.trans s1c_bind).trans h
      · simp at h
theorem ok (k : Nat) : CtOK prog 7 (ct (f k)) := by
  refine ct_of_ev (E := E k) is (hE k) (segs_ok k) rfl ?_
  intro tvs blks res h
  simp only [ct] at h
  split at h
  · exact (ev.trans c_bind).trans h
  · simp at h
end transomlaw12_awake
namespace transomref12_Find
abbrev G : Type := ByteArray → Int → (List D_api_Col) → (List D_api_Line) → ByteArray → Option (Int × Bool)
def ct (g : G) : Ct where
  nin := 0
  mv := []
  F := fun tvs blks {β} K => match tvs, blks with
    | [.v (.agg [(.d .str a0), (.d (.int .i64) a1), (.d (.sl (.pair .str (.pair (.int .i64) (.pair .bool (.pair (.pair (.int .i64) (.pair (.int .i64) (.pair (.int .u64) (.pair .str .unit)))) .unit))))) a2), (.d (.sl (.pair .str (.pair (.sl (.pair (.int .i64) (.pair (.int .i64) (.pair (.int .u64) (.pair .str .unit))))) .unit))) a3)]), .v (.one (.d .str a4))], [] => (g a0 a1 a2 a3 a4).bind fun r => K ⟨.tup [(.one (.d (.int .i64) r.1)), (.one (.d .bool r.2))], []⟩
    | _, _ => none
  legit := fun _ _ K _ h => by split at h; exact (legit1 K h :); simp at h
abbrev S0 : Type := ByteArray → Int → ByteArray → Int → (List D_api_Col) → (List D_api_Line) → Option (Int × Bool)
def sg0 (g : S0) : Seg where
  path := [4, 1, 0, 1]
  prep := []
  keep := [1, 2, 6]
  F := fun tvs blks {β} K => match tvs, blks with
    | [.v (.one (.d .str x0)), .v (.one (.ptr 0 0)), .v (.one (.d (.int .i64) x1))], [some (.box [(.d .str x2), (.d (.int .i64) x3), (.d (.sl (.pair .str (.pair (.int .i64) (.pair .bool (.pair (.pair (.int .i64) (.pair (.int .i64) (.pair (.int .u64) (.pair .str .unit)))) .unit))))) x4), (.d (.sl (.pair .str (.pair (.sl (.pair (.int .i64) (.pair (.int .i64) (.pair (.int .u64) (.pair .str .unit))))) .unit))) x5)])] => (g x0 x1 x2 x3 x4 x5).bind fun r => K ⟨.tup [(.one (.d (.int .i64) r.1)), (.one (.d .bool r.2))], []⟩
    | _, _ => none
  legit := fun _ _ K _ h => by split at h; exact (legit1 K h :); simp at h
noncomputable def env  (s0 : S0) : FEnv := { P := prog, ct := fun m => none, N := 34, body := f13.body.getD .skip, rvs := [.tmp 4, .tmp 5], rts := [3, 4], nin := 0, rmv := [], segs := [sg0 s0] }
def c {β : Type}  (s0 : S0) (a0 : ByteArray) (a1 : Int) (a2 : List D_api_Col) (a3 : List D_api_Line) (a4 : ByteArray) (ret : (Int × Bool) → Option β) : Option β := ((s0 a4 (0 : Int) a0 a1 a2 a3).bind ret)
def s0c {β : Type}  (s0 : S0) (x0 : ByteArray) (x1 : Int) (x2 : ByteArray) (x3 : Int) (x4 : List D_api_Col) (x5 : List D_api_Line) (ret : (Int × Bool) → Option β) : Option β := (bif (decide (x1 < ((List.length x5) : Int))) then (bif ((decide ((0 : Int) ≤ x1)) && (decide (x1 < ((List.length x5) : Int)))) then (bif (!(Op.bytesLess (ByteArray.toList (elem T_api_Line x5 x1).1) (ByteArray.toList x0))) then (bif ((decide ((0 : Int) ≤ x1)) && (decide (x1 < ((List.length x5) : Int)))) then (ret (x1, ((ByteArray.toList (elem T_api_Line x5 x1).1) == (ByteArray.toList x0)))) else none) else ((s0 x0 (IntKind.wrap IntKind.i64 (x1 + (1 : Int))) x2 x3 x4 x5).bind ret)) else none) else (ret (((List.length x5) : Int), false)))
theorem c_bind {β : Type}  {s0 : S0} {a0 : ByteArray} {a1 : Int} {a2 : List D_api_Col} {a3 : List D_api_Line} {a4 : ByteArray} {ret : (Int × Bool) → Option β} : c  s0 a0 a1 a2 a3 a4 ret = (c  s0 a0 a1 a2 a3 a4 some).bind ret := by
  simp only [c, bif_bind, sum_bind, oa, os, on, ofs]
theorem s0c_bind {β : Type}  {s0 : S0} {x0 : ByteArray} {x1 : Int} {x2 : ByteArray} {x3 : Int} {x4 : List D_api_Col} {x5 : List D_api_Line} {ret : (Int × Bool) → Option β} : s0c  s0 x0 x1 x2 x3 x4 x5 ret = (s0c  s0 x0 x1 x2 x3 x4 x5 some).bind ret := by
  simp only [s0c, bif_bind, sum_bind, oa, os, on, ofs]
theorem ev  {s0 : S0} {a0 : ByteArray} {a1 : Int} {a2 : List D_api_Col} {a3 : List D_api_Line} {a4 : ByteArray} : evAt (env  s0) [] [0, 1] [.v (.agg [(.d .str a0), (.d (.int .i64) a1), (.d (.sl T_api_Col) a2), (.d (.sl T_api_Line) a3)]), .v (.one (.d .str a4))] [] some = c  s0 a0 a1 a2 a3 a4 (fun r => some ⟨.tup [(.one (.d (.int .i64) r.1)), (.one (.d .bool r.2))], []⟩) := by
  kernel_rfl
theorem s0_ev  {s0 : S0} {x0 : ByteArray} {x1 : Int} {x2 : ByteArray} {x3 : Int} {x4 : List D_api_Col} {x5 : List D_api_Line} : evAt (env  s0) [4, 1, 0, 1] [1, 2, 6] [.v (.one (.d .str x0)), .v (.one (.ptr 0 0)), .v (.one (.d (.int .i64) x1))] [some (.box [(.d .str x2), (.d (.int .i64) x3), (.d (.sl T_api_Col) x4), (.d (.sl T_api_Line) x5)])] some = s0c  s0 x0 x1 x2 x3 x4 x5 (fun r => some ⟨.tup [(.one (.d (.int .i64) r.1)), (.one (.d .bool r.2))], []⟩) := by
  kernel_rfl
def s0 : Nat → ByteArray → Int → ByteArray → Int → (List D_api_Col) → (List D_api_Line) → Option (Int × Bool)
  | 0, _, _, _, _, _, _ => none
  | k + 1, x0, x1, x2, x3, x4, x5 => s0c  (s0 k) x0 x1 x2 x3 x4 x5 some
def f (k : Nat) (a0 : ByteArray) (a1 : Int) (a2 : List D_api_Col) (a3 : List D_api_Line) (a4 : ByteArray) : Option (Int × Bool) := c  (s0 k) a0 a1 a2 a3 a4 some
theorem is  {s0 : S0} : FnIs (env  s0) 13 f13 := ⟨func13, rfl, rfl, rfl, by decide⟩
theorem envok  {s0 : S0}  : EnvOK (env  s0).toEnv := by
  intro f c h
  simp only [env] at h
  simp at h
noncomputable abbrev E (k : Nat) : FEnv := env  (s0 k)
theorem hE (k : Nat) : EnvOK (E k).toEnv := envok 
theorem segs_ok : ∀ k, ∀ s ∈ (E k).segs, SegOK (E k) f13 s
  | 0 => by
    intro s hs
    simp only [E, env, List.mem_cons, List.not_mem_nil, or_false] at hs
    rcases hs with rfl
    · intro tvs blks res h; exfalso; simp only [sg0] at h; split at h <;> simp [s0] at h
  | k + 1 => by
    intro s hs
    simp only [E, env, List.mem_cons, List.not_mem_nil, or_false] at hs
    rcases hs with rfl
    · refine seg_of_ev (E := E k) (hE k) ⟨is.rvs⟩ (segs_ok k) ?_
      intro tvs blks res h
      simp only [sg0] at h
      split at h
      · exact (s0_ev.trans s0c_bind).trans h
      · simp at h
theorem ok (k : Nat) : CtOK prog 13 (ct (f k)) := by
  refine ct_of_ev (E := E k) is (hE k) (segs_ok k) rfl ?_
  intro tvs blks res h
  simp only [ct] at h
  split at h
  · exact (ev.trans c_bind).trans h
  · simp at h
end transomref12_Find
namespace transomref08_letter
abbrev G : Type := Int → Option Bool
def ct (g : G) : Ct where
  nin := 0
  mv := []
  F := fun tvs blks {β} K => match tvs, blks with
    | [.v (.one (.d (.int .u8) a0))], [] => (g a0).bind fun r => K ⟨.v (.one (.d .bool r)), []⟩
    | _, _ => none
  legit := fun _ _ K _ h => by split at h; exact (legit1 K h :); simp at h
noncomputable def env   : FEnv := { P := prog, ct := fun m => none, N := 9, body := f82.body.getD .skip, rvs := [.tmp 2], rts := [4], nin := 0, rmv := [], segs := [] }
def c {β : Type}   (a0 : Int) (ret : Bool → Option β) : Option β := (bif (decide (a0 ≥ (97 : Int))) then (ret ((decide (a0 ≤ (122 : Int))))) else (ret (false)))
theorem c_bind {β : Type}   {a0 : Int} {ret : Bool → Option β} : c   a0 ret = (c   a0 some).bind ret := by
  simp only [c, bif_bind, sum_bind, oa, os, on, ofs]
theorem ev   {a0 : Int} : evAt (env  ) [] [0] [.v (.one (.d (.int .u8) a0))] [] some = c   a0 (fun r => some ⟨.v (.one (.d .bool r)), []⟩) := by
  kernel_rfl
def f (k : Nat) (a0 : Int) : Option Bool := c   a0 some
theorem is   : FnIs (env  ) 82 f82 := ⟨func82, rfl, rfl, rfl, by decide⟩
theorem envok    : EnvOK (env  ).toEnv := by
  intro f c h
  simp only [env] at h
  simp at h
noncomputable abbrev E (k : Nat) : FEnv := env  
theorem hE (k : Nat) : EnvOK (E k).toEnv := envok 
theorem ok (k : Nat) : CtOK prog 82 (ct (f k)) := by
  refine ct_of_ev (E := E k) is (hE k) (fun s hs => by simp [E, env] at hs) rfl ?_
  intro tvs blks res h
  simp only [ct] at h
  split at h
  · exact (ev.trans c_bind).trans h
  · simp at h
end transomref08_letter
namespace transomref08_Check
abbrev G : Type := ByteArray → Option Int
def ct (g : G) : Ct where
  nin := 0
  mv := []
  F := fun tvs blks {β} K => match tvs, blks with
    | [.v (.one (.d .str a0))], [] => (g a0).bind fun r => K ⟨.v (.one (.d (.int .i64) r)), []⟩
    | _, _ => none
  legit := fun _ _ K _ h => by split at h; exact (legit1 K h :); simp at h
abbrev S0 : Type := ByteArray → Bool → Option Int
abbrev S1 : Type := ByteArray → Option Int
abbrev S2 : Type := ByteArray → Int → Option Int
abbrev S3 : Type := ByteArray → Int → Bool → Option Int
abbrev S4 : Type := ByteArray → Int → Option Int
def sg0 (g : S0) : Seg where
  path := [1, 0, 1]
  prep := []
  keep := [0, 17]
  F := fun tvs blks {β} K => match tvs, blks with
    | [.v (.one (.d .str x0)), .v (.one (.d .bool x1))], [] => (g x0 x1).bind fun r => K ⟨.v (.one (.d (.int .i64) r)), []⟩
    | _, _ => none
  legit := fun _ _ K _ h => by split at h; exact (legit1 K h :); simp at h
def sg1 (g : S1) : Seg where
  path := [1, 1]
  prep := []
  keep := [0]
  F := fun tvs blks {β} K => match tvs, blks with
    | [.v (.one (.d .str x0))], [] => (g x0).bind fun r => K ⟨.v (.one (.d (.int .i64) r)), []⟩
    | _, _ => none
  legit := fun _ _ K _ h => by split at h; exact (legit1 K h :); simp at h
def sg2 (g : S2) : Seg where
  path := [4, 1, 0, 1, 1]
  prep := []
  keep := [0, 3]
  F := fun tvs blks {β} K => match tvs, blks with
    | [.v (.one (.d .str x0)), .v (.one (.d (.int .i64) x1))], [] => (g x0 x1).bind fun r => K ⟨.v (.one (.d (.int .i64) r)), []⟩
    | _, _ => none
  legit := fun _ _ K _ h => by split at h; exact (legit1 K h :); simp at h
def sg3 (g : S3) : Seg where
  path := [1, 4, 0, 1, 5, 4, 1, 0, 1, 1]
  prep := []
  keep := [0, 3, 46]
  F := fun tvs blks {β} K => match tvs, blks with
    | [.v (.one (.d .str x0)), .v (.one (.d (.int .i64) x1)), .v (.one (.d .bool x2))], [] => (g x0 x1 x2).bind fun r => K ⟨.v (.one (.d (.int .i64) r)), []⟩
    | _, _ => none
  legit := fun _ _ K _ h => by split at h; exact (legit1 K h :); simp at h
def sg4 (g : S4) : Seg where
  path := [1, 1, 5, 4, 1, 0, 1, 1]
  prep := []
  keep := [0, 3]
  F := fun tvs blks {β} K => match tvs, blks with
    | [.v (.one (.d .str x0)), .v (.one (.d (.int .i64) x1))], [] => (g x0 x1).bind fun r => K ⟨.v (.one (.d (.int .i64) r)), []⟩
    | _, _ => none
  legit := fun _ _ K _ h => by split at h; exact (legit1 K h :); simp at h
noncomputable def env (g82 : transomref08_letter.G) (s0 : S0) (s1 : S1) (s2 : S2) (s3 : S3) (s4 : S4) : FEnv := { P := prog, ct := fun m => if m = 82 then some (transomref08_letter.ct g82) else none, N := 47, body := f64.body.getD .skip, rvs := [.tmp 2], rts := [3], nin := 0, rmv := [], segs := [sg0 s0, sg1 s1, sg2 s2, sg3 s3, sg4 s4] }
def c {β : Type} (g82 : transomref08_letter.G) (s0 : S0) (s1 : S1) (s2 : S2) (s3 : S3) (s4 : S4) (a0 : ByteArray) (ret : Int → Option β) : Option β := (bif (decide (((ByteArray.size a0) : Int) < (1 : Int))) then ((s0 a0 true).bind ret) else (bif (decide (((ByteArray.size a0) : Int) > (16 : Int))) then ((s0 a0 true).bind ret) else (bif (true && (decide ((0 : Int) < ((ByteArray.size a0) : Int)))) then ((g82 (bt a0 (0 : Int))).bind fun r0 => ((s0 a0 (!r0)).bind ret)) else none)))
def s0c {β : Type} (g82 : transomref08_letter.G) (s0 : S0) (s1 : S1) (s2 : S2) (s3 : S3) (s4 : S4) (x0 : ByteArray) (x1 : Bool) (ret : Int → Option β) : Option β := (bif x1 then (ret ((8 : Int))) else ((s1 x0).bind ret))
def s1c {β : Type} (g82 : transomref08_letter.G) (s0 : S0) (s1 : S1) (s2 : S2) (s3 : S3) (s4 : S4) (x0 : ByteArray) (ret : Int → Option β) : Option β := ((s2 x0 (1 : Int)).bind ret)
def s2c {β : Type} (g82 : transomref08_letter.G) (s0 : S0) (s1 : S1) (s2 : S2) (s3 : S3) (s4 : S4) (x0 : ByteArray) (x1 : Int) (ret : Int → Option β) : Option β := (bif (decide (x1 < ((ByteArray.size x0) : Int))) then (bif ((decide ((0 : Int) ≤ x1)) && (decide (x1 < ((ByteArray.size x0) : Int)))) then ((g82 (bt x0 x1)).bind fun r0 => (bif (!r0) then (bif ((decide ((0 : Int) ≤ x1)) && (decide (x1 < ((ByteArray.size x0) : Int)))) then (bif ((bt x0 x1) != (95 : Int)) then (bif ((decide ((0 : Int) ≤ x1)) && (decide (x1 < ((ByteArray.size x0) : Int)))) then (bif (decide ((bt x0 x1) < (48 : Int))) then ((s3 x0 x1 true).bind ret) else (bif ((decide ((0 : Int) ≤ x1)) && (decide (x1 < ((ByteArray.size x0) : Int)))) then ((s3 x0 x1 (decide ((bt x0 x1) > (57 : Int)))).bind ret) else none)) else none) else ((s3 x0 x1 false).bind ret)) else none) else ((s3 x0 x1 false).bind ret))) else none) else (ret ((0 : Int))))
def s3c {β : Type} (g82 : transomref08_letter.G) (s0 : S0) (s1 : S1) (s2 : S2) (s3 : S3) (s4 : S4) (x0 : ByteArray) (x1 : Int) (x2 : Bool) (ret : Int → Option β) : Option β := (bif x2 then (ret ((8 : Int))) else ((s4 x0 x1).bind ret))
def s4c {β : Type} (g82 : transomref08_letter.G) (s0 : S0) (s1 : S1) (s2 : S2) (s3 : S3) (s4 : S4) (x0 : ByteArray) (x1 : Int) (ret : Int → Option β) : Option β := ((s2 x0 (IntKind.wrap IntKind.i64 (x1 + (1 : Int)))).bind ret)
theorem c_bind {β : Type} {g82 : transomref08_letter.G} {s0 : S0} {s1 : S1} {s2 : S2} {s3 : S3} {s4 : S4} {a0 : ByteArray} {ret : Int → Option β} : c g82 s0 s1 s2 s3 s4 a0 ret = (c g82 s0 s1 s2 s3 s4 a0 some).bind ret := by
  simp only [c, bif_bind, sum_bind, oa, os, on, ofs]
theorem s0c_bind {β : Type} {g82 : transomref08_letter.G} {s0 : S0} {s1 : S1} {s2 : S2} {s3 : S3} {s4 : S4} {x0 : ByteArray} {x1 : Bool} {ret : Int → Option β} : s0c g82 s0 s1 s2 s3 s4 x0 x1 ret = (s0c g82 s0 s1 s2 s3 s4 x0 x1 some).bind ret := by
  simp only [s0c, bif_bind, sum_bind, oa, os, on, ofs]
theorem s1c_bind {β : Type} {g82 : transomref08_letter.G} {s0 : S0} {s1 : S1} {s2 : S2} {s3 : S3} {s4 : S4} {x0 : ByteArray} {ret : Int → Option β} : s1c g82 s0 s1 s2 s3 s4 x0 ret = (s1c g82 s0 s1 s2 s3 s4 x0 some).bind ret := by
  simp only [s1c, bif_bind, sum_bind, oa, os, on, ofs]
theorem s2c_bind {β : Type} {g82 : transomref08_letter.G} {s0 : S0} {s1 : S1} {s2 : S2} {s3 : S3} {s4 : S4} {x0 : ByteArray} {x1 : Int} {ret : Int → Option β} : s2c g82 s0 s1 s2 s3 s4 x0 x1 ret = (s2c g82 s0 s1 s2 s3 s4 x0 x1 some).bind ret := by
  simp only [s2c, bif_bind, sum_bind, oa, os, on, ofs]
theorem s3c_bind {β : Type} {g82 : transomref08_letter.G} {s0 : S0} {s1 : S1} {s2 : S2} {s3 : S3} {s4 : S4} {x0 : ByteArray} {x1 : Int} {x2 : Bool} {ret : Int → Option β} : s3c g82 s0 s1 s2 s3 s4 x0 x1 x2 ret = (s3c g82 s0 s1 s2 s3 s4 x0 x1 x2 some).bind ret := by
  simp only [s3c, bif_bind, sum_bind, oa, os, on, ofs]
theorem s4c_bind {β : Type} {g82 : transomref08_letter.G} {s0 : S0} {s1 : S1} {s2 : S2} {s3 : S3} {s4 : S4} {x0 : ByteArray} {x1 : Int} {ret : Int → Option β} : s4c g82 s0 s1 s2 s3 s4 x0 x1 ret = (s4c g82 s0 s1 s2 s3 s4 x0 x1 some).bind ret := by
  simp only [s4c, bif_bind, sum_bind, oa, os, on, ofs]
theorem ev {g82 : transomref08_letter.G} {s0 : S0} {s1 : S1} {s2 : S2} {s3 : S3} {s4 : S4} {a0 : ByteArray} : evAt (env g82 s0 s1 s2 s3 s4) [] [0] [.v (.one (.d .str a0))] [] some = c g82 s0 s1 s2 s3 s4 a0 (fun r => some ⟨.v (.one (.d (.int .i64) r)), []⟩) := by
  kernel_rfl
theorem s0_ev {g82 : transomref08_letter.G} {s0 : S0} {s1 : S1} {s2 : S2} {s3 : S3} {s4 : S4} {x0 : ByteArray} {x1 : Bool} : evAt (env g82 s0 s1 s2 s3 s4) [1, 0, 1] [0, 17] [.v (.one (.d .str x0)), .v (.one (.d .bool x1))] [] some = s0c g82 s0 s1 s2 s3 s4 x0 x1 (fun r => some ⟨.v (.one (.d (.int .i64) r)), []⟩) := by
  kernel_rfl
theorem s1_ev {g82 : transomref08_letter.G} {s0 : S0} {s1 : S1} {s2 : S2} {s3 : S3} {s4 : S4} {x0 : ByteArray} : evAt (env g82 s0 s1 s2 s3 s4) [1, 1] [0] [.v (.one (.d .str x0))] [] some = s1c g82 s0 s1 s2 s3 s4 x0 (fun r => some ⟨.v (.one (.d (.int .i64) r)), []⟩) := by
  kernel_rfl
theorem s2_ev {g82 : transomref08_letter.G} {s0 : S0} {s1 : S1} {s2 : S2} {s3 : S3} {s4 : S4} {x0 : ByteArray} {x1 : Int} : evAt (env g82 s0 s1 s2 s3 s4) [4, 1, 0, 1, 1] [0, 3] [.v (.one (.d .str x0)), .v (.one (.d (.int .i64) x1))] [] some = s2c g82 s0 s1 s2 s3 s4 x0 x1 (fun r => some ⟨.v (.one (.d (.int .i64) r)), []⟩) := by
  kernel_rfl
theorem s3_ev {g82 : transomref08_letter.G} {s0 : S0} {s1 : S1} {s2 : S2} {s3 : S3} {s4 : S4} {x0 : ByteArray} {x1 : Int} {x2 : Bool} : evAt (env g82 s0 s1 s2 s3 s4) [1, 4, 0, 1, 5, 4, 1, 0, 1, 1] [0, 3, 46] [.v (.one (.d .str x0)), .v (.one (.d (.int .i64) x1)), .v (.one (.d .bool x2))] [] some = s3c g82 s0 s1 s2 s3 s4 x0 x1 x2 (fun r => some ⟨.v (.one (.d (.int .i64) r)), []⟩) := by
  kernel_rfl
theorem s4_ev {g82 : transomref08_letter.G} {s0 : S0} {s1 : S1} {s2 : S2} {s3 : S3} {s4 : S4} {x0 : ByteArray} {x1 : Int} : evAt (env g82 s0 s1 s2 s3 s4) [1, 1, 5, 4, 1, 0, 1, 1] [0, 3] [.v (.one (.d .str x0)), .v (.one (.d (.int .i64) x1))] [] some = s4c g82 s0 s1 s2 s3 s4 x0 x1 (fun r => some ⟨.v (.one (.d (.int .i64) r)), []⟩) := by
  kernel_rfl
mutual
def s0 : Nat → ByteArray → Bool → Option Int
  | 0, _, _ => none
  | k + 1, x0, x1 => s0c (transomref08_letter.f k) (s0 k) (s1 k) (s2 k) (s3 k) (s4 k) x0 x1 some
def s1 : Nat → ByteArray → Option Int
  | 0, _ => none
  | k + 1, x0 => s1c (transomref08_letter.f k) (s0 k) (s1 k) (s2 k) (s3 k) (s4 k) x0 some
def s2 : Nat → ByteArray → Int → Option Int
  | 0, _, _ => none
  | k + 1, x0, x1 => s2c (transomref08_letter.f k) (s0 k) (s1 k) (s2 k) (s3 k) (s4 k) x0 x1 some
def s3 : Nat → ByteArray → Int → Bool → Option Int
  | 0, _, _, _ => none
  | k + 1, x0, x1, x2 => s3c (transomref08_letter.f k) (s0 k) (s1 k) (s2 k) (s3 k) (s4 k) x0 x1 x2 some
def s4 : Nat → ByteArray → Int → Option Int
  | 0, _, _ => none
  | k + 1, x0, x1 => s4c (transomref08_letter.f k) (s0 k) (s1 k) (s2 k) (s3 k) (s4 k) x0 x1 some
end
def f (k : Nat) (a0 : ByteArray) : Option Int := c (transomref08_letter.f k) (s0 k) (s1 k) (s2 k) (s3 k) (s4 k) a0 some
theorem is {g82 : transomref08_letter.G} {s0 : S0} {s1 : S1} {s2 : S2} {s3 : S3} {s4 : S4} : FnIs (env g82 s0 s1 s2 s3 s4) 64 f64 := ⟨func64, rfl, rfl, rfl, by decide⟩
theorem envok {g82 : transomref08_letter.G} {s0 : S0} {s1 : S1} {s2 : S2} {s3 : S3} {s4 : S4} (h82 : CtOK prog 82 (transomref08_letter.ct g82)) : EnvOK (env g82 s0 s1 s2 s3 s4).toEnv := by
  intro f c h
  simp only [env] at h
  split at h
  · rename_i e; subst e; cases h; exact h82
  simp at h
noncomputable abbrev E (k : Nat) : FEnv := env (transomref08_letter.f k) (s0 k) (s1 k) (s2 k) (s3 k) (s4 k)
theorem hE (k : Nat) : EnvOK (E k).toEnv := envok (transomref08_letter.ok k)
theorem segs_ok : ∀ k, ∀ s ∈ (E k).segs, SegOK (E k) f64 s
  | 0 => by
    intro s hs
    simp only [E, env, List.mem_cons, List.not_mem_nil, or_false] at hs
    rcases hs with rfl | rfl | rfl | rfl | rfl
    · intro tvs blks res h; exfalso; simp only [sg0] at h; split at h <;> simp [s0] at h
    · intro tvs blks res h; exfalso; simp only [sg1] at h; split at h <;> simp [s1] at h
    · intro tvs blks res h; exfalso; simp only [sg2] at h; split at h <;> simp [s2] at h
    · intro tvs blks res h; exfalso; simp only [sg3] at h; split at h <;> simp [s3] at h
    · intro tvs blks res h; exfalso; simp only [sg4] at h; split at h <;> simp [s4] at h
  | k + 1 => by
    intro s hs
    simp only [E, env, List.mem_cons, List.not_mem_nil, or_false] at hs
    rcases hs with rfl | rfl | rfl | rfl | rfl
    · refine seg_of_ev (E := E k) (hE k) ⟨is.rvs⟩ (segs_ok k) ?_
      intro tvs blks res h
      simp only [sg0] at h
      split at h
      · exact (s0_ev.trans s0c_bind).trans h
      · simp at h
    · refine seg_of_ev (E := E k) (hE k) ⟨is.rvs⟩ (segs_ok k) ?_
      intro tvs blks res h
      simp only [sg1] at h
      split at h
      · exact (s1_ev.trans s1c_bind).trans h
      · simp at h
    · refine seg_of_ev (E := E k) (hE k) ⟨is.rvs⟩ (segs_ok k) ?_
      intro tvs blks res h
      simp only [sg2] at h
      split at h
      · exact (s2_ev.trans s2c_bind).trans h
      · simp at h
    · refine seg_of_ev (E := E k) (hE k) ⟨is.rvs⟩ (segs_ok k) ?_
      intro tvs blks res h
      simp only [sg3] at h
      split at h
      · exact (s3_ev.trans s3c_bind).trans h
      · simp at h
    · refine seg_of_ev (E := E k) (hE k) ⟨is.rvs⟩ (segs_ok k) ?_
      intro tvs blks res h
      simp only [sg4] at h
      split at h
      · exact (s4_ev.trans s4c_bind).trans h
      · simp at h
theorem ok (k : Nat) : CtOK prog 64 (ct (f k)) := by
  refine ct_of_ev (E := E k) is (hE k) (segs_ok k) rfl ?_
  intro tvs blks res h
  simp only [ct] at h
  split at h
  · exact (ev.trans c_bind).trans h
  · simp at h
end transomref08_Check
namespace transomref02_exponent
abbrev G : Type := Int → Option Int
def ct (g : G) : Ct where
  nin := 0
  mv := []
  F := fun tvs blks {β} K => match tvs, blks with
    | [.v (.one (.d (.int .u64) a0))], [] => (g a0).bind fun r => K ⟨.v (.one (.d (.int .i64) r)), []⟩
    | _, _ => none
  legit := fun _ _ K _ h => by split at h; exact (legit1 K h :); simp at h
noncomputable def env   : FEnv := { P := prog, ct := fun m => none, N := 7, body := f93.body.getD .skip, rvs := [.tmp 2], rts := [3], nin := 0, rmv := [], segs := [] }
def c {β : Type}   (a0 : Int) (ret : Int → Option β) : Option β := (ret ((IntKind.wrap IntKind.i64 (IntKind.wrap IntKind.u64 ((BitVec.toNat ((BitVec.ofInt (64 : Nat) (Int.fdiv a0 (4503599627370496 : Int))) &&& (BitVec.ofInt (64 : Nat) (2047 : Int)))) : Int)))))
theorem c_bind {β : Type}   {a0 : Int} {ret : Int → Option β} : c   a0 ret = (c   a0 some).bind ret := by
  simp only [c, bif_bind, sum_bind, oa, os, on, ofs]
theorem ev   {a0 : Int} : evAt (env  ) [] [0] [.v (.one (.d (.int .u64) a0))] [] some = c   a0 (fun r => some ⟨.v (.one (.d (.int .i64) r)), []⟩) := by
  kernel_rfl
def f (k : Nat) (a0 : Int) : Option Int := c   a0 some
theorem is   : FnIs (env  ) 93 f93 := ⟨func93, rfl, rfl, rfl, by decide⟩
theorem envok    : EnvOK (env  ).toEnv := by
  intro f c h
  simp only [env] at h
  simp at h
noncomputable abbrev E (k : Nat) : FEnv := env  
theorem hE (k : Nat) : EnvOK (E k).toEnv := envok 
theorem ok (k : Nat) : CtOK prog 93 (ct (f k)) := by
  refine ct_of_ev (E := E k) is (hE k) (fun s hs => by simp [E, env] at hs) rfl ?_
  intro tvs blks res h
  simp only [ct] at h
  split at h
  · exact (ev.trans c_bind).trans h
  · simp at h
end transomref02_exponent
end Go.Proofs.YtdbbkmmillnaiaaGreatDoor.Aev
