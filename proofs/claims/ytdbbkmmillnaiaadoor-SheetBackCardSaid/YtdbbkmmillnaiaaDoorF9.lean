/- By a program of this session (AEV): functions of the program as plain functions, and that the machine does what they say. -/
import Derived.Test.YtdbbkmmillnaiaaDoorTys
import Derived.Test.YtdbbkmmillnaiaaDoorProg
import Derived.Laws.Externs
import Derived.Lib.Bytealg
import Derived.Test.YtdbbkmmillnaiaaDoorF7
import Derived.Test.YtdbbkmmillnaiaaDoorF8
namespace Go.Proofs.YtdbbkmmillnaiaaDoor.Aev
set_option linter.unusedVariables false
set_option linter.unusedSimpArgs false
set_option maxRecDepth 100000
set_option maxHeartbeats 4000000
open Go Go.Proofs.Tryd
namespace sheet_Find
abbrev G : Type := ByteArray → Int → (List D_api_Col) → (List D_api_Line) → ByteArray → Option (Int × Bool)
def ct (g : G) : Ct where
  nin := 0
  mv := []
  F := fun tvs blks {β} K => match tvs, blks with
    | [.v (.agg [(.d .str a0), (.d (.int .i64) a1), (.d (.sl (.pair .str (.pair (.int .i64) (.pair .bool (.pair (.pair (.int .i64) (.pair (.int .i64) (.pair (.int .u64) (.pair .str .unit)))) .unit))))) a2), (.d (.sl (.pair .str (.pair (.sl (.pair (.int .i64) (.pair (.int .i64) (.pair (.int .u64) (.pair .str .unit))))) .unit))) a3)]), .v (.one (.d .str a4))], [] => (g a0 a1 a2 a3 a4).bind fun r => K ⟨.tup [(.one (.d (.int .i64) r.1)), (.one (.d .bool r.2))], []⟩
    | _, _ => none
  legit := fun _ _ K _ h => by split at h; exact (legit1 K h :); simp at h
noncomputable def env (g31 : sheet_at.G)  : FEnv := { P := prog, ct := fun m => if m = 31 then some (sheet_at.ct g31) else none, N := 12, body := f22.body.getD .skip, rvs := [.tmp 4, .tmp 5], rts := [3, 4], nin := 0, rmv := [], segs := [] }
def c {β : Type} (g31 : sheet_at.G)  (a0 : ByteArray) (a1 : Int) (a2 : List D_api_Col) (a3 : List D_api_Line) (a4 : ByteArray) (ret : (Int × Bool) → Option β) : Option β := ((g31 a3 a4).bind fun r0 => (ret (r0.1, r0.2)))
theorem c_bind {β : Type} {g31 : sheet_at.G}  {a0 : ByteArray} {a1 : Int} {a2 : List D_api_Col} {a3 : List D_api_Line} {a4 : ByteArray} {ret : (Int × Bool) → Option β} : c g31  a0 a1 a2 a3 a4 ret = (c g31  a0 a1 a2 a3 a4 some).bind ret := by
  simp only [c, bif_bind, sum_bind, oa, os, on, ofs]
theorem ev {g31 : sheet_at.G}  {a0 : ByteArray} {a1 : Int} {a2 : List D_api_Col} {a3 : List D_api_Line} {a4 : ByteArray} : evAt (env g31 ) [] [0, 1] [.v (.agg [(.d .str a0), (.d (.int .i64) a1), (.d (.sl T_api_Col) a2), (.d (.sl T_api_Line) a3)]), .v (.one (.d .str a4))] [] some = c g31  a0 a1 a2 a3 a4 (fun r => some ⟨.tup [(.one (.d (.int .i64) r.1)), (.one (.d .bool r.2))], []⟩) := by
  kernel_rfl
def f (k : Nat) (a0 : ByteArray) (a1 : Int) (a2 : List D_api_Col) (a3 : List D_api_Line) (a4 : ByteArray) : Option (Int × Bool) := c (sheet_at.f k)  a0 a1 a2 a3 a4 some
theorem is {g31 : sheet_at.G}  : FnIs (env g31 ) 22 f22 := ⟨func22, rfl, rfl, rfl, by decide⟩
theorem envok {g31 : sheet_at.G}  (h31 : CtOK prog 31 (sheet_at.ct g31)) : EnvOK (env g31 ).toEnv := by
  intro f c h
  simp only [env] at h
  split at h
  · rename_i e; subst e; cases h; exact h31
  simp at h
noncomputable abbrev E (k : Nat) : FEnv := env (sheet_at.f k) 
theorem hE (k : Nat) : EnvOK (E k).toEnv := envok (sheet_at.ok k)
theorem ok (k : Nat) : CtOK prog 22 (ct (f k)) := by
  refine ct_of_ev (E := E k) is (hE k) (fun s hs => by simp [E, env] at hs) rfl ?_
  intro tvs blks res h
  simp only [ct] at h
  split at h
  · exact (ev.trans c_bind).trans h
  · simp at h
end sheet_Find
namespace sheet_Delete
abbrev G : Type := ByteArray → Int → (List D_api_Col) → (List D_api_Line) → ByteArray → Option (ByteArray × Int × (List D_api_Col) × (List D_api_Line) × Bool)
def ct (g : G) : Ct where
  nin := 0
  mv := []
  F := fun tvs blks {β} K => match tvs, blks with
    | [.v (.agg [(.d .str a0), (.d (.int .i64) a1), (.d (.sl (.pair .str (.pair (.int .i64) (.pair .bool (.pair (.pair (.int .i64) (.pair (.int .i64) (.pair (.int .u64) (.pair .str .unit)))) .unit))))) a2), (.d (.sl (.pair .str (.pair (.sl (.pair (.int .i64) (.pair (.int .i64) (.pair (.int .u64) (.pair .str .unit))))) .unit))) a3)]), .v (.one (.d .str a4))], [] => (g a0 a1 a2 a3 a4).bind fun r => K ⟨.tup [(.agg [(.d .str r.1), (.d (.int .i64) r.2.1), (.d (.sl T_api_Col) r.2.2.1), (.d (.sl T_api_Line) r.2.2.2.1)]), (.one (.d .bool r.2.2.2.2))], []⟩
    | _, _ => none
  legit := fun _ _ K _ h => by split at h; exact (legit1 K h :); simp at h
noncomputable def env (g31 : sheet_at.G) (g33 : sheet_spliced.G)  : FEnv := { P := prog, ct := fun m => if m = 31 then some (sheet_at.ct g31) else if m = 33 then some (sheet_spliced.ct g33) else none, N := 25, body := f24.body.getD .skip, rvs := [.cell 4 27, .tmp 5], rts := [27, 4], nin := 0, rmv := [], segs := [] }
def c {β : Type} (g31 : sheet_at.G) (g33 : sheet_spliced.G)  (a0 : ByteArray) (a1 : Int) (a2 : List D_api_Col) (a3 : List D_api_Line) (a4 : ByteArray) (ret : (ByteArray × Int × (List D_api_Col) × (List D_api_Line) × Bool) → Option β) : Option β := ((g31 a3 a4).bind fun r0 => (bif r0.2 then ((g33 a3 r0.1 (IntKind.wrap IntKind.i64 (r0.1 + (1 : Int))) []).bind fun r1 => (ret (a0, a1, a2, r1, r0.2))) else (ret (a0, a1, a2, a3, r0.2))))
theorem c_bind {β : Type} {g31 : sheet_at.G} {g33 : sheet_spliced.G}  {a0 : ByteArray} {a1 : Int} {a2 : List D_api_Col} {a3 : List D_api_Line} {a4 : ByteArray} {ret : (ByteArray × Int × (List D_api_Col) × (List D_api_Line) × Bool) → Option β} : c g31 g33  a0 a1 a2 a3 a4 ret = (c g31 g33  a0 a1 a2 a3 a4 some).bind ret := by
  simp only [c, bif_bind, sum_bind, oa, os, on, ofs]
theorem ev {g31 : sheet_at.G} {g33 : sheet_spliced.G}  {a0 : ByteArray} {a1 : Int} {a2 : List D_api_Col} {a3 : List D_api_Line} {a4 : ByteArray} : evAt (env g31 g33 ) [] [0, 1] [.v (.agg [(.d .str a0), (.d (.int .i64) a1), (.d (.sl T_api_Col) a2), (.d (.sl T_api_Line) a3)]), .v (.one (.d .str a4))] [] some = c g31 g33  a0 a1 a2 a3 a4 (fun r => some ⟨.tup [(.agg [(.d .str r.1), (.d (.int .i64) r.2.1), (.d (.sl T_api_Col) r.2.2.1), (.d (.sl T_api_Line) r.2.2.2.1)]), (.one (.d .bool r.2.2.2.2))], []⟩) := by
  kernel_rfl
def f (k : Nat) (a0 : ByteArray) (a1 : Int) (a2 : List D_api_Col) (a3 : List D_api_Line) (a4 : ByteArray) : Option (ByteArray × Int × (List D_api_Col) × (List D_api_Line) × Bool) := c (sheet_at.f k) (sheet_spliced.f k)  a0 a1 a2 a3 a4 some
theorem is {g31 : sheet_at.G} {g33 : sheet_spliced.G}  : FnIs (env g31 g33 ) 24 f24 := ⟨func24, rfl, rfl, rfl, by decide⟩
theorem envok {g31 : sheet_at.G} {g33 : sheet_spliced.G}  (h31 : CtOK prog 31 (sheet_at.ct g31)) (h33 : CtOK prog 33 (sheet_spliced.ct g33)) : EnvOK (env g31 g33 ).toEnv := by
  intro f c h
  simp only [env] at h
  split at h
  · rename_i e; subst e; cases h; exact h31
  split at h
  · rename_i e; subst e; cases h; exact h33
  simp at h
noncomputable abbrev E (k : Nat) : FEnv := env (sheet_at.f k) (sheet_spliced.f k) 
theorem hE (k : Nat) : EnvOK (E k).toEnv := envok (sheet_at.ok k) (sheet_spliced.ok k)
theorem ok (k : Nat) : CtOK prog 24 (ct (f k)) := by
  refine ct_of_ev (E := E k) is (hE k) (fun s hs => by simp [E, env] at hs) rfl ?_
  intro tvs blks res h
  simp only [ct] at h
  split at h
  · exact (ev.trans c_bind).trans h
  · simp at h
end sheet_Delete
namespace transomlaw09_Plain
abbrev G : Type := Option (ByteArray × Int × (List D_api_Col))
def ct (g : G) : Ct where
  nin := 0
  mv := []
  F := fun tvs blks {β} K => match tvs, blks with
    | [], [] => (g ).bind fun r => K ⟨.v (.agg [(.d .str r.1), (.d (.int .i64) r.2.1), (.own 0)]), [some (.own T_api_Col true r.2.2)]⟩
    | _, _ => none
  legit := fun _ _ K _ h => by split at h; exact (legit1 K h :); simp at h
noncomputable def env   : FEnv := { P := prog, ct := fun m => none, N := 5, body := f29.body.getD .skip, rvs := [.cell 0 24], rts := [24], nin := 0, rmv := [0], segs := [] }
def c {β : Type}    (ret : (ByteArray × Int × (List D_api_Col)) → Option β) : Option β := (ret ((ByteArray.mk (List.toArray [(116 : UInt8)])), (1 : Int), [((ByteArray.mk (List.toArray [(107 : UInt8)])), ((2 : Int), (false, (((0 : Int), ((0 : Int), ((0 : Int), ((ByteArray.mk (List.toArray [])), ())))), ())))), ((ByteArray.mk (List.toArray [(118 : UInt8)])), ((5 : Int), (true, (((0 : Int), ((0 : Int), ((0 : Int), ((ByteArray.mk (List.toArray [])), ())))), ()))))]))
theorem c_bind {β : Type}    {ret : (ByteArray × Int × (List D_api_Col)) → Option β} : c    ret = (c    some).bind ret := by
  simp only [c, bif_bind, sum_bind, oa, os, on, ofs]
theorem ev    : evAt (env  ) [] [] [] [] some = c    (fun r => some ⟨.v (.agg [(.d .str r.1), (.d (.int .i64) r.2.1), (.own 0)]), [some (.own T_api_Col true r.2.2)]⟩) := by
  kernel_rfl
def f (k : Nat)  : Option (ByteArray × Int × (List D_api_Col)) := c    some
theorem is   : FnIs (env  ) 29 f29 := ⟨func29, rfl, rfl, rfl, by decide⟩
theorem envok    : EnvOK (env  ).toEnv := by
  intro f c h
  simp only [env] at h
  simp at h
noncomputable abbrev E (k : Nat) : FEnv := env  
theorem hE (k : Nat) : EnvOK (E k).toEnv := envok 
theorem ok (k : Nat) : CtOK prog 29 (ct (f k)) := by
  refine ct_of_ev (E := E k) is (hE k) (fun s hs => by simp [E, env] at hs) rfl ?_
  intro tvs blks res h
  simp only [ct] at h
  split at h
  · exact (ev.trans c_bind).trans h
  · simp at h
end transomlaw09_Plain
namespace transomlaw12_row
abbrev G : Type := Int → Option ((List D_api_Value))
def ct (g : G) : Ct where
  nin := 0
  mv := []
  F := fun tvs blks {β} K => match tvs, blks with
    | [.v (.one (.d (.int .i64) a0))], [] => (g a0).bind fun r => K ⟨.v (.one (.d (.sl T_api_Value) r)), []⟩
    | _, _ => none
  legit := fun _ _ K _ h => by split at h; exact (legit1 K h :); simp at h
noncomputable def env   : FEnv := { P := prog, ct := fun m => none, N := 7, body := f30.body.getD .skip, rvs := [.tmp 2], rts := [45], nin := 0, rmv := [], segs := [] }
def c {β : Type}   (a0 : Int) (ret : ((List D_api_Value)) → Option β) : Option β := (ret ([((2 : Int), (a0, ((0 : Int), ((ByteArray.mk (List.toArray [])), ())))), ((0 : Int), ((0 : Int), ((0 : Int), ((ByteArray.mk (List.toArray [])), ()))))]))
theorem c_bind {β : Type}   {a0 : Int} {ret : ((List D_api_Value)) → Option β} : c   a0 ret = (c   a0 some).bind ret := by
  simp only [c, bif_bind, sum_bind, oa, os, on, ofs]
theorem ev   {a0 : Int} : evAt (env  ) [] [0] [.v (.one (.d (.int .i64) a0))] [] some = c   a0 (fun r => some ⟨.v (.one (.d (.sl T_api_Value) r)), []⟩) := by
  kernel_rfl
def f (k : Nat) (a0 : Int) : Option ((List D_api_Value)) := c   a0 some
theorem is   : FnIs (env  ) 30 f30 := ⟨func30, rfl, rfl, rfl, by decide⟩
theorem envok    : EnvOK (env  ).toEnv := by
  intro f c h
  simp only [env] at h
  simp at h
noncomputable abbrev E (k : Nat) : FEnv := env  
theorem hE (k : Nat) : EnvOK (E k).toEnv := envok 
theorem ok (k : Nat) : CtOK prog 30 (ct (f k)) := by
  refine ct_of_ev (E := E k) is (hE k) (fun s hs => by simp [E, env] at hs) rfl ?_
  intro tvs blks res h
  simp only [ct] at h
  split at h
  · exact (ev.trans c_bind).trans h
  · simp at h
end transomlaw12_row
namespace transomlaw12_awake
abbrev G : Type := Option Bool
def ct (g : G) : Ct where
  nin := 0
  mv := []
  F := fun tvs blks {β} K => match tvs, blks with
    | [], [] => (g ).bind fun r => K ⟨.v (.one (.d .bool r)), []⟩
    | _, _ => none
  legit := fun _ _ K _ h => by split at h; exact (legit1 K h :); simp at h
abbrev S0 : Type := Bool → Int → Bool → Int → Bool → Int → Bool → Int → Bool → ByteArray → Int → (List D_api_Col) → (List D_api_Line) → Option Bool
abbrev S1 : Type := Bool → Int → Bool → Int → Bool → Int → Bool → Int → ByteArray → Int → (List D_api_Col) → (List D_api_Line) → Option Bool
def sg0 (g : S0) : Seg where
  path := [1, 0, 1, 1, 1, 1, 1, 1]
  prep := []
  keep := [1, 2, 3, 4, 5, 6, 7, 9, 10, 57]
  F := fun tvs blks {β} K => match tvs, blks with
    | [.v (.one (.ptr 0 0)), .v (.one (.d .bool x0)), .v (.one (.d (.int .i64) x1)), .v (.one (.d .bool x2)), .v (.one (.d (.int .i64) x3)), .v (.one (.d .bool x4)), .v (.one (.d (.int .i64) x5)), .v (.one (.d .bool x6)), .v (.one (.d (.int .i64) x7)), .v (.one (.d .bool x8))], [some (.box [(.d .str x9), (.d (.int .i64) x10), (.d (.sl (.pair .str (.pair (.int .i64) (.pair .bool (.pair (.pair (.int .i64) (.pair (.int .i64) (.pair (.int .u64) (.pair .str .unit)))) .unit))))) x11), (.d (.sl (.pair .str (.pair (.sl (.pair (.int .i64) (.pair (.int .i64) (.pair (.int .u64) (.pair .str .unit))))) .unit))) x12)])] => (g x0 x1 x2 x3 x4 x5 x6 x7 x8 x9 x10 x11 x12).bind fun r => K ⟨.v (.one (.d .bool r)), []⟩
    | _, _ => none
  legit := fun _ _ K _ h => by split at h; exact (legit1 K h :); simp at h
def sg1 (g : S1) : Seg where
  path := [1, 1, 1, 1, 1, 1, 1]
  prep := []
  keep := [1, 2, 3, 4, 5, 6, 7, 9, 10]
  F := fun tvs blks {β} K => match tvs, blks with
    | [.v (.one (.ptr 0 0)), .v (.one (.d .bool x0)), .v (.one (.d (.int .i64) x1)), .v (.one (.d .bool x2)), .v (.one (.d (.int .i64) x3)), .v (.one (.d .bool x4)), .v (.one (.d (.int .i64) x5)), .v (.one (.d .bool x6)), .v (.one (.d (.int .i64) x7))], [some (.box [(.d .str x8), (.d (.int .i64) x9), (.d (.sl (.pair .str (.pair (.int .i64) (.pair .bool (.pair (.pair (.int .i64) (.pair (.int .i64) (.pair (.int .u64) (.pair .str .unit)))) .unit))))) x10), (.d (.sl (.pair .str (.pair (.sl (.pair (.int .i64) (.pair (.int .i64) (.pair (.int .u64) (.pair .str .unit))))) .unit))) x11)])] => (g x0 x1 x2 x3 x4 x5 x6 x7 x8 x9 x10 x11).bind fun r => K ⟨.v (.one (.d .bool r)), []⟩
    | _, _ => none
  legit := fun _ _ K _ h => by split at h; exact (legit1 K h :); simp at h
noncomputable def env (g8 : sheet_Check.G) (g13 : sheet_Range.G) (g15 : sheet_Merge.G) (g19 : sheet_Put.G) (g22 : sheet_Find.G) (g24 : sheet_Delete.G) (g29 : transomlaw09_Plain.G) (g30 : transomlaw12_row.G) (s0 : S0) (s1 : S1) : FEnv := { P := prog, ct := fun m => if m = 8 then some (sheet_Check.ct g8) else if m = 13 then some (sheet_Range.ct g13) else if m = 15 then some (sheet_Merge.ct g15) else if m = 19 then some (sheet_Put.ct g19) else if m = 22 then some (sheet_Find.ct g22) else if m = 24 then some (sheet_Delete.ct g24) else if m = 29 then some (transomlaw09_Plain.ct g29) else if m = 30 then some (transomlaw12_row.ct g30) else none, N := 140, body := f10.body.getD .skip, rvs := [.tmp 0], rts := [4], nin := 0, rmv := [], segs := [sg0 s0, sg1 s1] }
def c {β : Type} (g8 : sheet_Check.G) (g13 : sheet_Range.G) (g15 : sheet_Merge.G) (g19 : sheet_Put.G) (g22 : sheet_Find.G) (g24 : sheet_Delete.G) (g29 : transomlaw09_Plain.G) (g30 : transomlaw12_row.G) (s0 : S0) (s1 : S1)  (ret : Bool → Option β) : Option β := (g29.bind fun r0 => ((g30 (3 : Int)).bind fun r1 => ((g19 r0.1 r0.2.1 r0.2.2 [] r1).bind fun r2 => ((g30 (1 : Int)).bind fun r3 => ((g19 r2.1 r2.2.1 r2.2.2.1 r2.2.2.2.1 r3).bind fun r4 => ((g30 (2 : Int)).bind fun r5 => ((g19 r4.1 r4.2.1 r4.2.2.1 r4.2.2.2.1 r5).bind fun r6 => ((g30 (2 : Int)).bind fun r7 => ((g19 r6.1 r6.2.1 r6.2.2.1 r6.2.2.2.1 r7).bind fun r8 => (bif (((List.length r6.2.2.2.1) : Int) != (3 : Int)) then ((s0 r2.2.2.2.2.1 r2.2.2.2.2.2 r4.2.2.2.2.1 r4.2.2.2.2.2 r6.2.2.2.2.1 r6.2.2.2.2.2 r8.2.2.2.2.1 r8.2.2.2.2.2 true r6.1 r6.2.1 r6.2.2.1 r6.2.2.2.1).bind ret) else ((s0 r2.2.2.2.2.1 r2.2.2.2.2.2 r4.2.2.2.2.1 r4.2.2.2.2.2 r6.2.2.2.2.1 r6.2.2.2.2.2 r8.2.2.2.2.1 r8.2.2.2.2.2 (((List.length r8.2.2.2.1) : Int) != (3 : Int)) r6.1 r6.2.1 r6.2.2.1 r6.2.2.2.1).bind ret)))))))))))
def s0c {β : Type} (g8 : sheet_Check.G) (g13 : sheet_Range.G) (g15 : sheet_Merge.G) (g19 : sheet_Put.G) (g22 : sheet_Find.G) (g24 : sheet_Delete.G) (g29 : transomlaw09_Plain.G) (g30 : transomlaw12_row.G) (s0 : S0) (s1 : S1) (x0 : Bool) (x1 : Int) (x2 : Bool) (x3 : Int) (x4 : Bool) (x5 : Int) (x6 : Bool) (x7 : Int) (x8 : Bool) (x9 : ByteArray) (x10 : Int) (x11 : List D_api_Col) (x12 : List D_api_Line) (ret : Bool → Option β) : Option β := (bif x8 then (ret (false)) else ((s1 x0 x1 x2 x3 x4 x5 x6 x7 x9 x10 x11 x12).bind ret))
def s1c {β : Type} (g8 : sheet_Check.G) (g13 : sheet_Range.G) (g15 : sheet_Merge.G) (g19 : sheet_Put.G) (g22 : sheet_Find.G) (g24 : sheet_Delete.G) (g29 : transomlaw09_Plain.G) (g30 : transomlaw12_row.G) (s0 : S0) (s1 : S1) (x0 : Bool) (x1 : Int) (x2 : Bool) (x3 : Int) (x4 : Bool) (x5 : Int) (x6 : Bool) (x7 : Int) (x8 : ByteArray) (x9 : Int) (x10 : List D_api_Col) (x11 : List D_api_Line) (ret : Bool → Option β) : Option β := (bif (true && (decide ((1 : Int) < ((List.length x11) : Int)))) then ((g22 x8 x9 x10 x11 (elem T_api_Line x11 (1 : Int)).1).bind fun r0 => ((g24 x8 x9 x10 x11 (elem T_api_Line x11 (1 : Int)).1).bind fun r1 => ((g15 x8 x9 x10 x11 r1.1 r1.2.1 r1.2.2.1 r1.2.2.2.1).bind fun r2 => (bif x0 then (bif (x1 == (0 : Int)) then (bif x2 then (bif (x3 == (0 : Int)) then (bif x4 then (bif (x5 == (0 : Int)) then (bif (!x6) then (bif (x7 == (0 : Int)) then (bif (r0.1 == (1 : Int)) then (bif r0.2 then (bif (((List.length r1.2.2.2.1) : Int) == (2 : Int)) then (bif r1.2.2.2.2 then (bif (r2.2 == (15 : Int)) then ((g13 x8 x9 x10 x11 (elem T_api_Line x11 (1 : Int)).1 (ByteArray.mk (List.toArray [])) (5 : Int)).bind fun r3 => (bif (((List.length r3) : Int) == (2 : Int)) then ((g8 x8 x9 x10 x11).bind fun r4 => (ret ((r4 == (0 : Int))))) else (ret (false)))) else (ret (false))) else (ret (false))) else (ret (false))) else (ret (false))) else (ret (false))) else (ret (false))) else (ret (false))) else (ret (false))) else (ret (false))) else (ret (false))) else (ret (false))) else (ret (false))) else (ret (false)))))) else none)
theorem c_bind {β : Type} {g8 : sheet_Check.G} {g13 : sheet_Range.G} {g15 : sheet_Merge.G} {g19 : sheet_Put.G} {g22 : sheet_Find.G} {g24 : sheet_Delete.G} {g29 : transomlaw09_Plain.G} {g30 : transomlaw12_row.G} {s0 : S0} {s1 : S1}  {ret : Bool → Option β} : c g8 g13 g15 g19 g22 g24 g29 g30 s0 s1  ret = (c g8 g13 g15 g19 g22 g24 g29 g30 s0 s1  some).bind ret := by
  simp only [c, bif_bind, sum_bind, oa, os, on, ofs]
theorem s0c_bind {β : Type} {g8 : sheet_Check.G} {g13 : sheet_Range.G} {g15 : sheet_Merge.G} {g19 : sheet_Put.G} {g22 : sheet_Find.G} {g24 : sheet_Delete.G} {g29 : transomlaw09_Plain.G} {g30 : transomlaw12_row.G} {s0 : S0} {s1 : S1} {x0 : Bool} {x1 : Int} {x2 : Bool} {x3 : Int} {x4 : Bool} {x5 : Int} {x6 : Bool} {x7 : Int} {x8 : Bool} {x9 : ByteArray} {x10 : Int} {x11 : List D_api_Col} {x12 : List D_api_Line} {ret : Bool → Option β} : s0c g8 g13 g15 g19 g22 g24 g29 g30 s0 s1 x0 x1 x2 x3 x4 x5 x6 x7 x8 x9 x10 x11 x12 ret = (s0c g8 g13 g15 g19 g22 g24 g29 g30 s0 s1 x0 x1 x2 x3 x4 x5 x6 x7 x8 x9 x10 x11 x12 some).bind ret := by
  simp only [s0c, bif_bind, sum_bind, oa, os, on, ofs]
theorem s1c_bind {β : Type} {g8 : sheet_Check.G} {g13 : sheet_Range.G} {g15 : sheet_Merge.G} {g19 : sheet_Put.G} {g22 : sheet_Find.G} {g24 : sheet_Delete.G} {g29 : transomlaw09_Plain.G} {g30 : transomlaw12_row.G} {s0 : S0} {s1 : S1} {x0 : Bool} {x1 : Int} {x2 : Bool} {x3 : Int} {x4 : Bool} {x5 : Int} {x6 : Bool} {x7 : Int} {x8 : ByteArray} {x9 : Int} {x10 : List D_api_Col} {x11 : List D_api_Line} {ret : Bool → Option β} : s1c g8 g13 g15 g19 g22 g24 g29 g30 s0 s1 x0 x1 x2 x3 x4 x5 x6 x7 x8 x9 x10 x11 ret = (s1c g8 g13 g15 g19 g22 g24 g29 g30 s0 s1 x0 x1 x2 x3 x4 x5 x6 x7 x8 x9 x10 x11 some).bind ret := by
  simp only [s1c, bif_bind, sum_bind, oa, os, on, ofs]
theorem ev {g8 : sheet_Check.G} {g13 : sheet_Range.G} {g15 : sheet_Merge.G} {g19 : sheet_Put.G} {g22 : sheet_Find.G} {g24 : sheet_Delete.G} {g29 : transomlaw09_Plain.G} {g30 : transomlaw12_row.G} {s0 : S0} {s1 : S1}  : evAt (env g8 g13 g15 g19 g22 g24 g29 g30 s0 s1) [] [] [] [] some = c g8 g13 g15 g19 g22 g24 g29 g30 s0 s1  (fun r => some ⟨.v (.one (.d .bool r)), []⟩) := by
  kernel_rfl
theorem s0_ev {g8 : sheet_Check.G} {g13 : sheet_Range.G} {g15 : sheet_Merge.G} {g19 : sheet_Put.G} {g22 : sheet_Find.G} {g24 : sheet_Delete.G} {g29 : transomlaw09_Plain.G} {g30 : transomlaw12_row.G} {s0 : S0} {s1 : S1} {x0 : Bool} {x1 : Int} {x2 : Bool} {x3 : Int} {x4 : Bool} {x5 : Int} {x6 : Bool} {x7 : Int} {x8 : Bool} {x9 : ByteArray} {x10 : Int} {x11 : List D_api_Col} {x12 : List D_api_Line} : evAt (env g8 g13 g15 g19 g22 g24 g29 g30 s0 s1) [1, 0, 1, 1, 1, 1, 1, 1] [1, 2, 3, 4, 5, 6, 7, 9, 10, 57] [.v (.one (.ptr 0 0)), .v (.one (.d .bool x0)), .v (.one (.d (.int .i64) x1)), .v (.one (.d .bool x2)), .v (.one (.d (.int .i64) x3)), .v (.one (.d .bool x4)), .v (.one (.d (.int .i64) x5)), .v (.one (.d .bool x6)), .v (.one (.d (.int .i64) x7)), .v (.one (.d .bool x8))] [some (.box [(.d .str x9), (.d (.int .i64) x10), (.d (.sl T_api_Col) x11), (.d (.sl T_api_Line) x12)])] some = s0c g8 g13 g15 g19 g22 g24 g29 g30 s0 s1 x0 x1 x2 x3 x4 x5 x6 x7 x8 x9 x10 x11 x12 (fun r => some ⟨.v (.one (.d .bool r)), []⟩) := by
  kernel_rfl
theorem s1_ev {g8 : sheet_Check.G} {g13 : sheet_Range.G} {g15 : sheet_Merge.G} {g19 : sheet_Put.G} {g22 : sheet_Find.G} {g24 : sheet_Delete.G} {g29 : transomlaw09_Plain.G} {g30 : transomlaw12_row.G} {s0 : S0} {s1 : S1} {x0 : Bool} {x1 : Int} {x2 : Bool} {x3 : Int} {x4 : Bool} {x5 : Int} {x6 : Bool} {x7 : Int} {x8 : ByteArray} {x9 : Int} {x10 : List D_api_Col} {x11 : List D_api_Line} : evAt (env g8 g13 g15 g19 g22 g24 g29 g30 s0 s1) [1, 1, 1, 1, 1, 1, 1] [1, 2, 3, 4, 5, 6, 7, 9, 10] [.v (.one (.ptr 0 0)), .v (.one (.d .bool x0)), .v (.one (.d (.int .i64) x1)), .v (.one (.d .bool x2)), .v (.one (.d (.int .i64) x3)), .v (.one (.d .bool x4)), .v (.one (.d (.int .i64) x5)), .v (.one (.d .bool x6)), .v (.one (.d (.int .i64) x7))] [some (.box [(.d .str x8), (.d (.int .i64) x9), (.d (.sl T_api_Col) x10), (.d (.sl T_api_Line) x11)])] some = s1c g8 g13 g15 g19 g22 g24 g29 g30 s0 s1 x0 x1 x2 x3 x4 x5 x6 x7 x8 x9 x10 x11 (fun r => some ⟨.v (.one (.d .bool r)), []⟩) := by
  kernel_rfl
mutual
def s0 : Nat → Bool → Int → Bool → Int → Bool → Int → Bool → Int → Bool → ByteArray → Int → (List D_api_Col) → (List D_api_Line) → Option Bool
  | 0, _, _, _, _, _, _, _, _, _, _, _, _, _ => none
  | k + 1, x0, x1, x2, x3, x4, x5, x6, x7, x8, x9, x10, x11, x12 => s0c (sheet_Check.f k) (sheet_Range.f k) (sheet_Merge.f k) (sheet_Put.f k) (sheet_Find.f k) (sheet_Delete.f k) (transomlaw09_Plain.f k) (transomlaw12_row.f k) (s0 k) (s1 k) x0 x1 x2 x3 x4 x5 x6 x7 x8 x9 x10 x11 x12 some
def s1 : Nat → Bool → Int → Bool → Int → Bool → Int → Bool → Int → ByteArray → Int → (List D_api_Col) → (List D_api_Line) → Option Bool
  | 0, _, _, _, _, _, _, _, _, _, _, _, _ => none
  | k + 1, x0, x1, x2, x3, x4, x5, x6, x7, x8, x9, x10, x11 => s1c (sheet_Check.f k) (sheet_Range.f k) (sheet_Merge.f k) (sheet_Put.f k) (sheet_Find.f k) (sheet_Delete.f k) (transomlaw09_Plain.f k) (transomlaw12_row.f k) (s0 k) (s1 k) x0 x1 x2 x3 x4 x5 x6 x7 x8 x9 x10 x11 some
end
def f (k : Nat)  : Option Bool := c (sheet_Check.f k) (sheet_Range.f k) (sheet_Merge.f k) (sheet_Put.f k) (sheet_Find.f k) (sheet_Delete.f k) (transomlaw09_Plain.f k) (transomlaw12_row.f k) (s0 k) (s1 k)  some
theorem is {g8 : sheet_Check.G} {g13 : sheet_Range.G} {g15 : sheet_Merge.G} {g19 : sheet_Put.G} {g22 : sheet_Find.G} {g24 : sheet_Delete.G} {g29 : transomlaw09_Plain.G} {g30 : transomlaw12_row.G} {s0 : S0} {s1 : S1} : FnIs (env g8 g13 g15 g19 g22 g24 g29 g30 s0 s1) 10 f10 := ⟨func10, rfl, rfl, rfl, by decide⟩
theorem envok {g8 : sheet_Check.G} {g13 : sheet_Range.G} {g15 : sheet_Merge.G} {g19 : sheet_Put.G} {g22 : sheet_Find.G} {g24 : sheet_Delete.G} {g29 : transomlaw09_Plain.G} {g30 : transomlaw12_row.G} {s0 : S0} {s1 : S1} (h8 : CtOK prog 8 (sheet_Check.ct g8)) (h13 : CtOK prog 13 (sheet_Range.ct g13)) (h15 : CtOK prog 15 (sheet_Merge.ct g15)) (h19 : CtOK prog 19 (sheet_Put.ct g19)) (h22 : CtOK prog 22 (sheet_Find.ct g22)) (h24 : CtOK prog 24 (sheet_Delete.ct g24)) (h29 : CtOK prog 29 (transomlaw09_Plain.ct g29)) (h30 : CtOK prog 30 (transomlaw12_row.ct g30)) : EnvOK (env g8 g13 g15 g19 g22 g24 g29 g30 s0 s1).toEnv := by
  intro f c h
  simp only [env] at h
  split at h
  · rename_i e; subst e; cases h; exact h8
  split at h
  · rename_i e; subst e; cases h; exact h13
  split at h
  · rename_i e; subst e; cases h; exact h15
  split at h
  · rename_i e; subst e; cases h; exact h19
  split at h
  · rename_i e; subst e; cases h; exact h22
  split at h
  · rename_i e; subst e; cases h; exact h24
  split at h
  · rename_i e; subst e; cases h; exact h29
  split at h
  · rename_i e; subst e; cases h; exact h30
  simp at h
noncomputable abbrev E (k : Nat) : FEnv := env (sheet_Check.f k) (sheet_Range.f k) (sheet_Merge.f k) (sheet_Put.f k) (sheet_Find.f k) (sheet_Delete.f k) (transomlaw09_Plain.f k) (transomlaw12_row.f k) (s0 k) (s1 k)
theorem hE (k : Nat) : EnvOK (E k).toEnv := envok (sheet_Check.ok k) (sheet_Range.ok k) (sheet_Merge.ok k) (sheet_Put.ok k) (sheet_Find.ok k) (sheet_Delete.ok k) (transomlaw09_Plain.ok k) (transomlaw12_row.ok k)
theorem segs_ok : ∀ k, ∀ s ∈ (E k).segs, SegOK (E k) f10 s
  | 0 => by
    intro s hs
    simp only [E, env, List.mem_cons, List.not_mem_nil, or_false] at hs
    rcases hs with rfl | rfl
    · intro tvs blks res h; exfalso; simp only [sg0] at h; split at h <;> simp [s0] at h
    · intro tvs blks res h; exfalso; simp only [sg1] at h; split at h <;> simp [s1] at h
  | k + 1 => by
    intro s hs
    simp only [E, env, List.mem_cons, List.not_mem_nil, or_false] at hs
    rcases hs with rfl | rfl
    · refine seg_of_ev (E := E k) (hE k) ⟨is.rvs⟩ (segs_ok k) ?_
      intro tvs blks res h
      simp only [sg0] at h
      split at h
      · exact (s0_ev.trans s0c_bind).trans h
      · simp at h
    · refine seg_of_ev (E := E k) (hE k) ⟨is.rvs⟩ (segs_ok k) ?_
      intro tvs blks res h
      simp only [sg1] at h
      split at h
      · exact (s1_ev.trans s1c_bind).trans h
      · simp at h
theorem ok (k : Nat) : CtOK prog 10 (ct (f k)) := by
  refine ct_of_ev (E := E k) is (hE k) (segs_ok k) rfl ?_
  intro tvs blks res h
  simp only [ct] at h
  split at h
  · exact (ev.trans c_bind).trans h
  · simp at h
end transomlaw12_awake
namespace transomlaw12_Rises
abbrev G : Type := ByteArray → Int → (List D_api_Col) → (List D_api_Line) → Option Int
def ct (g : G) : Ct where
  nin := 0
  mv := []
  F := fun tvs blks {β} K => match tvs, blks with
    | [.v (.agg [(.d .str a0), (.d (.int .i64) a1), (.d (.sl (.pair .str (.pair (.int .i64) (.pair .bool (.pair (.pair (.int .i64) (.pair (.int .i64) (.pair (.int .u64) (.pair .str .unit)))) .unit))))) a2), (.d (.sl (.pair .str (.pair (.sl (.pair (.int .i64) (.pair (.int .i64) (.pair (.int .u64) (.pair .str .unit))))) .unit))) a3)])], [] => (g a0 a1 a2 a3).bind fun r => K ⟨.v (.one (.d (.int .i64) r)), []⟩
    | _, _ => none
  legit := fun _ _ K _ h => by split at h; exact (legit1 K h :); simp at h
abbrev S0 : Type := Int → ByteArray → Int → (List D_api_Col) → (List D_api_Line) → Option Int
def sg0 (g : S0) : Seg where
  path := [4, 1, 0, 1]
  prep := []
  keep := [1, 3]
  F := fun tvs blks {β} K => match tvs, blks with
    | [.v (.one (.ptr 0 0)), .v (.one (.d (.int .i64) x0))], [some (.box [(.d .str x1), (.d (.int .i64) x2), (.d (.sl (.pair .str (.pair (.int .i64) (.pair .bool (.pair (.pair (.int .i64) (.pair (.int .i64) (.pair (.int .u64) (.pair .str .unit)))) .unit))))) x3), (.d (.sl (.pair .str (.pair (.sl (.pair (.int .i64) (.pair (.int .i64) (.pair (.int .u64) (.pair .str .unit))))) .unit))) x4)])] => (g x0 x1 x2 x3 x4).bind fun r => K ⟨.v (.one (.d (.int .i64) r)), []⟩
    | _, _ => none
  legit := fun _ _ K _ h => by split at h; exact (legit1 K h :); simp at h
noncomputable def env  (s0 : S0) : FEnv := { P := prog, ct := fun m => none, N := 25, body := f11.body.getD .skip, rvs := [.tmp 2], rts := [3], nin := 0, rmv := [], segs := [sg0 s0] }
def c {β : Type}  (s0 : S0) (a0 : ByteArray) (a1 : Int) (a2 : List D_api_Col) (a3 : List D_api_Line) (ret : Int → Option β) : Option β := ((s0 (1 : Int) a0 a1 a2 a3).bind ret)
def s0c {β : Type}  (s0 : S0) (x0 : Int) (x1 : ByteArray) (x2 : Int) (x3 : List D_api_Col) (x4 : List D_api_Line) (ret : Int → Option β) : Option β := (bif (decide (x0 < ((List.length x4) : Int))) then (bif ((decide ((0 : Int) ≤ x0)) && (decide (x0 < ((List.length x4) : Int)))) then (bif ((decide ((0 : Int) ≤ (IntKind.wrap IntKind.i64 (x0 - (1 : Int))))) && (decide ((IntKind.wrap IntKind.i64 (x0 - (1 : Int))) < ((List.length x4) : Int)))) then (bif ((Op.bytesLess (ByteArray.toList (elem T_api_Line x4 x0).1) (ByteArray.toList (elem T_api_Line x4 (IntKind.wrap IntKind.i64 (x0 - (1 : Int)))).1)) || ((ByteArray.toList (elem T_api_Line x4 x0).1) == (ByteArray.toList (elem T_api_Line x4 (IntKind.wrap IntKind.i64 (x0 - (1 : Int)))).1))) then (ret ((0 : Int))) else ((s0 (IntKind.wrap IntKind.i64 (x0 + (1 : Int))) x1 x2 x3 x4).bind ret)) else none) else none) else (ret ((1 : Int))))
theorem c_bind {β : Type}  {s0 : S0} {a0 : ByteArray} {a1 : Int} {a2 : List D_api_Col} {a3 : List D_api_Line} {ret : Int → Option β} : c  s0 a0 a1 a2 a3 ret = (c  s0 a0 a1 a2 a3 some).bind ret := by
  simp only [c, bif_bind, sum_bind, oa, os, on, ofs]
theorem s0c_bind {β : Type}  {s0 : S0} {x0 : Int} {x1 : ByteArray} {x2 : Int} {x3 : List D_api_Col} {x4 : List D_api_Line} {ret : Int → Option β} : s0c  s0 x0 x1 x2 x3 x4 ret = (s0c  s0 x0 x1 x2 x3 x4 some).bind ret := by
  simp only [s0c, bif_bind, sum_bind, oa, os, on, ofs]
theorem ev  {s0 : S0} {a0 : ByteArray} {a1 : Int} {a2 : List D_api_Col} {a3 : List D_api_Line} : evAt (env  s0) [] [0] [.v (.agg [(.d .str a0), (.d (.int .i64) a1), (.d (.sl T_api_Col) a2), (.d (.sl T_api_Line) a3)])] [] some = c  s0 a0 a1 a2 a3 (fun r => some ⟨.v (.one (.d (.int .i64) r)), []⟩) := by
  kernel_rfl
theorem s0_ev  {s0 : S0} {x0 : Int} {x1 : ByteArray} {x2 : Int} {x3 : List D_api_Col} {x4 : List D_api_Line} : evAt (env  s0) [4, 1, 0, 1] [1, 3] [.v (.one (.ptr 0 0)), .v (.one (.d (.int .i64) x0))] [some (.box [(.d .str x1), (.d (.int .i64) x2), (.d (.sl T_api_Col) x3), (.d (.sl T_api_Line) x4)])] some = s0c  s0 x0 x1 x2 x3 x4 (fun r => some ⟨.v (.one (.d (.int .i64) r)), []⟩) := by
  kernel_rfl
def s0 : Nat → Int → ByteArray → Int → (List D_api_Col) → (List D_api_Line) → Option Int
  | 0, _, _, _, _, _ => none
  | k + 1, x0, x1, x2, x3, x4 => s0c  (s0 k) x0 x1 x2 x3 x4 some
def f (k : Nat) (a0 : ByteArray) (a1 : Int) (a2 : List D_api_Col) (a3 : List D_api_Line) : Option Int := c  (s0 k) a0 a1 a2 a3 some
theorem is  {s0 : S0} : FnIs (env  s0) 11 f11 := ⟨func11, rfl, rfl, rfl, by decide⟩
theorem envok  {s0 : S0}  : EnvOK (env  s0).toEnv := by
  intro f c h
  simp only [env] at h
  simp at h
noncomputable abbrev E (k : Nat) : FEnv := env  (s0 k)
theorem hE (k : Nat) : EnvOK (E k).toEnv := envok 
theorem segs_ok : ∀ k, ∀ s ∈ (E k).segs, SegOK (E k) f11 s
  | 0 => by
    intro s hs
    simp only [E, env, List.mem_cons, List.not_mem_nil, or_false] at hs
    rcases hs with rfl
    · intro tvs blks res h; exfalso; simp only [sg0] at h; split at h <;> simp [s0] at h
  | k + 1 => by
    intro s hs
    simp only [E, env, List.mem_cons, List.not_mem_nil, or_false] at hs
    rcases hs with rfl
    · refine seg_of_ev (E := E k) (hE k) ⟨is.rvs⟩ (segs_ok k) ?_
      intro tvs blks res h
      simp only [sg0] at h
      split at h
      · exact (s0_ev.trans s0c_bind).trans h
      · simp at h
theorem ok (k : Nat) : CtOK prog 11 (ct (f k)) := by
  refine ct_of_ev (E := E k) is (hE k) (segs_ok k) rfl ?_
  intro tvs blks res h
  simp only [ct] at h
  split at h
  · exact (ev.trans c_bind).trans h
  · simp at h
end transomlaw12_Rises
end Go.Proofs.YtdbbkmmillnaiaaDoor.Aev
