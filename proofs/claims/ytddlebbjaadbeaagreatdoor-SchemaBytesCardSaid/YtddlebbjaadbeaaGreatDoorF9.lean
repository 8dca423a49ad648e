/- By a program of this session (AEV): functions of the program as plain functions, and that the machine does what they say. -/
import Derived.Test.YtddlebbjaadbeaaGreatDoorTys
import Derived.Test.YtddlebbjaadbeaaGreatDoorProg
import Derived.Laws.Externs
import Derived.Lib.Bytealg
import Derived.Test.YtddlebbjaadbeaaGreatDoorF0
import Derived.Test.YtddlebbjaadbeaaGreatDoorF2
import Derived.Test.YtddlebbjaadbeaaGreatDoorF4
import Derived.Test.YtddlebbjaadbeaaGreatDoorF7
import Derived.Test.YtddlebbjaadbeaaGreatDoorF8
namespace Go.Proofs.YtddlebbjaadbeaaGreatDoor.Aev
set_option linter.unusedVariables false
set_option linter.unusedSimpArgs false
set_option maxRecDepth 100000
set_option maxHeartbeats 4000000
open Go Go.Proofs.Tryz
namespace schema_Read
abbrev G : Type := ByteArray → Option (ByteArray × Int × (List D_api_Col) × ByteArray × Int)
def ct (g : G) : Ct where
  nin := 0
  mv := []
  F := fun tvs blks {β} K => match tvs, blks with
    | [.v (.one (.d .str a0))], [] => (g a0).bind fun r => K ⟨.tup [(.agg [(.d .str r.1), (.d (.int .i64) r.2.1), (.d (.sl T_api_Col) r.2.2.1)]), (.one (.d .str r.2.2.2.1)), (.one (.d (.int .i64) r.2.2.2.2))], []⟩
    | _, _ => none
  legit := fun _ _ K _ h => by split at h; exact (legit1 K h :); simp at h
abbrev S0 : Type := Int → Int → ByteArray → Int → ByteArray → Int → ByteArray → Int → (List D_api_Col) → Option (ByteArray × Int × (List D_api_Col) × ByteArray × Int)
abbrev S1 : Type := ByteArray → Int → ByteArray → Int → ByteArray → Int → (List D_api_Col) → Option (ByteArray × Int × (List D_api_Col) × ByteArray × Int)
def sg0 (g : S0) : Seg where
  path := [4, 1, 0, 1, 1, 1, 1, 1]
  prep := [.cellOwn 6 2 T_api_Col]
  keep := [2, 5, 6, 18, 19]
  F := fun tvs blks {β} K => match tvs, blks with
    | [.v (.one (.ptr 0 0)), .v (.one (.ptr 1 0)), .v (.one (.ptr 2 0)), .v (.one (.d (.int .i64) x0)), .v (.one (.d (.int .i64) x1))], [some (.box [(.d .str x2), (.d (.int .i64) x3), (.raw (.slice none 0 0))]), some (.box [(.d .str x4), (.d (.int .i64) x5)]), some (.box [(.d .str x6), (.d (.int .i64) x7), (.own 3)]), some (.own (.pair .str (.pair (.int .i64) (.pair .bool (.pair (.pair (.int .i64) (.pair (.int .i64) (.pair (.int .u64) (.pair .str .unit)))) .unit)))) false x8)] => (g x0 x1 x2 x3 x4 x5 x6 x7 x8).bind fun r => K ⟨.tup [(.agg [(.d .str r.1), (.d (.int .i64) r.2.1), (.d (.sl T_api_Col) r.2.2.1)]), (.one (.d .str r.2.2.2.1)), (.one (.d (.int .i64) r.2.2.2.2))], []⟩
    | _, _ => none
  legit := fun _ _ K _ h => by split at h; exact (legit1 K h :); simp at h
def sg1 (g : S1) : Seg where
  path := [1, 1, 1, 1, 1, 1, 1]
  prep := []
  keep := [2, 5, 6]
  F := fun tvs blks {β} K => match tvs, blks with
    | [.v (.one (.ptr 0 0)), .v (.one (.ptr 1 0)), .v (.one (.ptr 2 0))], [some (.box [(.d .str x0), (.d (.int .i64) x1), (.raw (.slice none 0 0))]), some (.box [(.d .str x2), (.d (.int .i64) x3)]), some (.box [(.d .str x4), (.d (.int .i64) x5), (.own 3)]), some (.own (.pair .str (.pair (.int .i64) (.pair .bool (.pair (.pair (.int .i64) (.pair (.int .i64) (.pair (.int .u64) (.pair .str .unit)))) .unit)))) false x6)] => (g x0 x1 x2 x3 x4 x5 x6).bind fun r => K ⟨.tup [(.agg [(.d .str r.1), (.d (.int .i64) r.2.1), (.d (.sl T_api_Col) r.2.2.1)]), (.one (.d .str r.2.2.2.1)), (.one (.d (.int .i64) r.2.2.2.2))], []⟩
    | _, _ => none
  legit := fun _ _ K _ h => by split at h; exact (legit1 K h :); simp at h
noncomputable def env (g22 : schema_Check.G) (g36 : schema_reader_text.G) (g37 : schema_reader_uint.G) (g38 : schema_reader_flag.G) (g39 : schema_reader_value.G) (g40 : schema_reader_fail.G) (s0 : S0) (s1 : S1) : FEnv := { P := prog, ct := fun m => if m = 22 then some (schema_Check.ct g22) else if m = 36 then some (schema_reader_text.ct g36) else if m = 37 then some (schema_reader_uint.ct g37) else if m = 38 then some (schema_reader_flag.ct g38) else if m = 39 then some (schema_reader_value.ct g39) else if m = 40 then some (schema_reader_fail.ct g40) else none, N := 64, body := f16.body.getD .skip, rvs := [.cell 2 24, .tmp 3, .tmp 4], rts := [24, 9, 29], nin := 0, rmv := [], segs := [sg0 s0, sg1 s1] }
def c {β : Type} (g22 : schema_Check.G) (g36 : schema_reader_text.G) (g37 : schema_reader_uint.G) (g38 : schema_reader_flag.G) (g39 : schema_reader_value.G) (g40 : schema_reader_fail.G) (s0 : S0) (s1 : S1) (a0 : ByteArray) (ret : (ByteArray × Int × (List D_api_Col) × ByteArray × Int) → Option β) : Option β := ((g36 a0 (0 : Int)).bind fun r0 => ((g37 (100 : Int) (1 : Int) r0.2.1 r0.2.2).bind fun r1 => ((g37 (8 : Int) (2 : Int) r1.2.1 r1.2.2).bind fun r2 => ((s0 r2.1 (0 : Int) (ByteArray.mk (List.toArray [])) (0 : Int) r2.2.1 r2.2.2 r0.1 r1.1 []).bind ret))))
def s0c {β : Type} (g22 : schema_Check.G) (g36 : schema_reader_text.G) (g37 : schema_reader_uint.G) (g38 : schema_reader_flag.G) (g39 : schema_reader_value.G) (g40 : schema_reader_fail.G) (s0 : S0) (s1 : S1) (x0 : Int) (x1 : Int) (x2 : ByteArray) (x3 : Int) (x4 : ByteArray) (x5 : Int) (x6 : ByteArray) (x7 : Int) (x8 : List D_api_Col) (ret : (ByteArray × Int × (List D_api_Col) × ByteArray × Int) → Option β) : Option β := (bif (decide (x1 < x0)) then ((g36 x4 x5).bind fun r0 => ((g37 (100 : Int) (1 : Int) r0.2.1 r0.2.2).bind fun r1 => ((g38 r1.2.1 r1.2.2).bind fun r2 => ((g39 r2.2.1 r2.2.2).bind fun r3 => (bif (decide ((((List.length x8) + (1 : Nat)) * (72 : Nat)) ≤ (35184372088832 : Nat))) then ((s0 x0 (IntKind.wrap IntKind.i64 (x1 + (1 : Int))) x2 x3 r3.2.2.2.2.1 r3.2.2.2.2.2 x6 x7 (x8 ++ [(r0.1, (r1.1, (r2.1, ((r3.1, (r3.2.1, (r3.2.2.1, (r3.2.2.2.1, ())))), ()))))])).bind ret) else none))))) else (bif (x5 == (0 : Int)) then ((g22 x6 x7 x8).bind fun r4 => ((g40 r4 x4 x5).bind fun r5 => ((s1 x2 x3 r5.1 r5.2 x6 x7 x8).bind ret))) else ((s1 x2 x3 x4 x5 x6 x7 x8).bind ret)))
def s1c {β : Type} (g22 : schema_Check.G) (g36 : schema_reader_text.G) (g37 : schema_reader_uint.G) (g38 : schema_reader_flag.G) (g39 : schema_reader_value.G) (g40 : schema_reader_fail.G) (s0 : S0) (s1 : S1) (x0 : ByteArray) (x1 : Int) (x2 : ByteArray) (x3 : Int) (x4 : ByteArray) (x5 : Int) (x6 : List D_api_Col) (ret : (ByteArray × Int × (List D_api_Col) × ByteArray × Int) → Option β) : Option β := (bif (x3 != (0 : Int)) then (ret ((ByteArray.mk (List.toArray [])), (0 : Int), [], (ByteArray.mk (List.toArray [])), x3)) else (ret (x4, x5, x6, x2, (0 : Int))))
theorem c_bind {β : Type} {g22 : schema_Check.G} {g36 : schema_reader_text.G} {g37 : schema_reader_uint.G} {g38 : schema_reader_flag.G} {g39 : schema_reader_value.G} {g40 : schema_reader_fail.G} {s0 : S0} {s1 : S1} {a0 : ByteArray} {ret : (ByteArray × Int × (List D_api_Col) × ByteArray × Int) → Option β} : c g22 g36 g37 g38 g39 g40 s0 s1 a0 ret = (c g22 g36 g37 g38 g39 g40 s0 s1 a0 some).bind ret := by
  simp only [c, bif_bind, sum_bind, oa, os, on, ofs]
theorem s0c_bind {β : Type} {g22 : schema_Check.G} {g36 : schema_reader_text.G} {g37 : schema_reader_uint.G} {g38 : schema_reader_flag.G} {g39 : schema_reader_value.G} {g40 : schema_reader_fail.G} {s0 : S0} {s1 : S1} {x0 : Int} {x1 : Int} {x2 : ByteArray} {x3 : Int} {x4 : ByteArray} {x5 : Int} {x6 : ByteArray} {x7 : Int} {x8 : List D_api_Col} {ret : (ByteArray × Int × (List D_api_Col) × ByteArray × Int) → Option β} : s0c g22 g36 g37 g38 g39 g40 s0 s1 x0 x1 x2 x3 x4 x5 x6 x7 x8 ret = (s0c g22 g36 g37 g38 g39 g40 s0 s1 x0 x1 x2 x3 x4 x5 x6 x7 x8 some).bind ret := by
  simp only [s0c, bif_bind, sum_bind, oa, os, on, ofs]
theorem s1c_bind {β : Type} {g22 : schema_Check.G} {g36 : schema_reader_text.G} {g37 : schema_reader_uint.G} {g38 : schema_reader_flag.G} {g39 : schema_reader_value.G} {g40 : schema_reader_fail.G} {s0 : S0} {s1 : S1} {x0 : ByteArray} {x1 : Int} {x2 : ByteArray} {x3 : Int} {x4 : ByteArray} {x5 : Int} {x6 : List D_api_Col} {ret : (ByteArray × Int × (List D_api_Col) × ByteArray × Int) → Option β} : s1c g22 g36 g37 g38 g39 g40 s0 s1 x0 x1 x2 x3 x4 x5 x6 ret = (s1c g22 g36 g37 g38 g39 g40 s0 s1 x0 x1 x2 x3 x4 x5 x6 some).bind ret := by
  simp only [s1c, bif_bind, sum_bind, oa, os, on, ofs]
theorem ev {g22 : schema_Check.G} {g36 : schema_reader_text.G} {g37 : schema_reader_uint.G} {g38 : schema_reader_flag.G} {g39 : schema_reader_value.G} {g40 : schema_reader_fail.G} {s0 : S0} {s1 : S1} {a0 : ByteArray} : evAt (env g22 g36 g37 g38 g39 g40 s0 s1) [] [0] [.v (.one (.d .str a0))] [] some = c g22 g36 g37 g38 g39 g40 s0 s1 a0 (fun r => some ⟨.tup [(.agg [(.d .str r.1), (.d (.int .i64) r.2.1), (.d (.sl T_api_Col) r.2.2.1)]), (.one (.d .str r.2.2.2.1)), (.one (.d (.int .i64) r.2.2.2.2))], []⟩) := by
  kernel_rfl
theorem s0_ev {g22 : schema_Check.G} {g36 : schema_reader_text.G} {g37 : schema_reader_uint.G} {g38 : schema_reader_flag.G} {g39 : schema_reader_value.G} {g40 : schema_reader_fail.G} {s0 : S0} {s1 : S1} {x0 : Int} {x1 : Int} {x2 : ByteArray} {x3 : Int} {x4 : ByteArray} {x5 : Int} {x6 : ByteArray} {x7 : Int} {x8 : List D_api_Col} : evAt (env g22 g36 g37 g38 g39 g40 s0 s1) [4, 1, 0, 1, 1, 1, 1, 1] [2, 5, 6, 18, 19] [.v (.one (.ptr 0 0)), .v (.one (.ptr 1 0)), .v (.one (.ptr 2 0)), .v (.one (.d (.int .i64) x0)), .v (.one (.d (.int .i64) x1))] [some (.box [(.d .str x2), (.d (.int .i64) x3), (.raw (.slice none 0 0))]), some (.box [(.d .str x4), (.d (.int .i64) x5)]), some (.box [(.d .str x6), (.d (.int .i64) x7), (.own 3)]), some (.own T_api_Col false x8)] some = s0c g22 g36 g37 g38 g39 g40 s0 s1 x0 x1 x2 x3 x4 x5 x6 x7 x8 (fun r => some ⟨.tup [(.agg [(.d .str r.1), (.d (.int .i64) r.2.1), (.d (.sl T_api_Col) r.2.2.1)]), (.one (.d .str r.2.2.2.1)), (.one (.d (.int .i64) r.2.2.2.2))], []⟩) := by
  kernel_rfl
theorem s1_ev {g22 : schema_Check.G} {g36 : schema_reader_text.G} {g37 : schema_reader_uint.G} {g38 : schema_reader_flag.G} {g39 : schema_reader_value.G} {g40 : schema_reader_fail.G} {s0 : S0} {s1 : S1} {x0 : ByteArray} {x1 : Int} {x2 : ByteArray} {x3 : Int} {x4 : ByteArray} {x5 : Int} {x6 : List D_api_Col} : evAt (env g22 g36 g37 g38 g39 g40 s0 s1) [1, 1, 1, 1, 1, 1, 1] [2, 5, 6] [.v (.one (.ptr 0 0)), .v (.one (.ptr 1 0)), .v (.one (.ptr 2 0))] [some (.box [(.d .str x0), (.d (.int .i64) x1), (.raw (.slice none 0 0))]), some (.box [(.d .str x2), (.d (.int .i64) x3)]), some (.box [(.d .str x4), (.d (.int .i64) x5), (.own 3)]), some (.own T_api_Col false x6)] some = s1c g22 g36 g37 g38 g39 g40 s0 s1 x0 x1 x2 x3 x4 x5 x6 (fun r => some ⟨.tup [(.agg [(.d .str r.1), (.d (.int .i64) r.2.1), (.d (.sl T_api_Col) r.2.2.1)]), (.one (.d .str r.2.2.2.1)), (.one (.d (.int .i64) r.2.2.2.2))], []⟩) := by
  kernel_rfl
mutual
def s0 : Nat → Int → Int → ByteArray → Int → ByteArray → Int → ByteArray → Int → (List D_api_Col) → Option (ByteArray × Int × (List D_api_Col) × ByteArray × Int)
  | 0, _, _, _, _, _, _, _, _, _ => none
  | k + 1, x0, x1, x2, x3, x4, x5, x6, x7, x8 => s0c (schema_Check.f k) (schema_reader_text.f k) (schema_reader_uint.f k) (schema_reader_flag.f k) (schema_reader_value.f k) (schema_reader_fail.f k) (s0 k) (s1 k) x0 x1 x2 x3 x4 x5 x6 x7 x8 some
def s1 : Nat → ByteArray → Int → ByteArray → Int → ByteArray → Int → (List D_api_Col) → Option (ByteArray × Int × (List D_api_Col) × ByteArray × Int)
  | 0, _, _, _, _, _, _, _ => none
  | k + 1, x0, x1, x2, x3, x4, x5, x6 => s1c (schema_Check.f k) (schema_reader_text.f k) (schema_reader_uint.f k) (schema_reader_flag.f k) (schema_reader_value.f k) (schema_reader_fail.f k) (s0 k) (s1 k) x0 x1 x2 x3 x4 x5 x6 some
end
def f (k : Nat) (a0 : ByteArray) : Option (ByteArray × Int × (List D_api_Col) × ByteArray × Int) := c (schema_Check.f k) (schema_reader_text.f k) (schema_reader_uint.f k) (schema_reader_flag.f k) (schema_reader_value.f k) (schema_reader_fail.f k) (s0 k) (s1 k) a0 some
theorem is {g22 : schema_Check.G} {g36 : schema_reader_text.G} {g37 : schema_reader_uint.G} {g38 : schema_reader_flag.G} {g39 : schema_reader_value.G} {g40 : schema_reader_fail.G} {s0 : S0} {s1 : S1} : FnIs (env g22 g36 g37 g38 g39 g40 s0 s1) 16 f16 := ⟨func16, rfl, rfl, rfl, by decide⟩
theorem envok {g22 : schema_Check.G} {g36 : schema_reader_text.G} {g37 : schema_reader_uint.G} {g38 : schema_reader_flag.G} {g39 : schema_reader_value.G} {g40 : schema_reader_fail.G} {s0 : S0} {s1 : S1} (h22 : CtOK prog 22 (schema_Check.ct g22)) (h36 : CtOK prog 36 (schema_reader_text.ct g36)) (h37 : CtOK prog 37 (schema_reader_uint.ct g37)) (h38 : CtOK prog 38 (schema_reader_flag.ct g38)) (h39 : CtOK prog 39 (schema_reader_value.ct g39)) (h40 : CtOK prog 40 (schema_reader_fail.ct g40)) : EnvOK (env g22 g36 g37 g38 g39 g40 s0 s1).toEnv := by
  intro f c h
  simp only [env] at h
  split at h
  · rename_i e; subst e; cases h; exact h22
  split at h
  · rename_i e; subst e; cases h; exact h36
  split at h
  · rename_i e; subst e; cases h; exact h37
  split at h
  · rename_i e; subst e; cases h; exact h38
  split at h
  · rename_i e; subst e; cases h; exact h39
  split at h
  · rename_i e; subst e; cases h; exact h40
  simp at h
noncomputable abbrev E (k : Nat) : FEnv := env (schema_Check.f k) (schema_reader_text.f k) (schema_reader_uint.f k) (schema_reader_flag.f k) (schema_reader_value.f k) (schema_reader_fail.f k) (s0 k) (s1 k)
theorem hE (k : Nat) : EnvOK (E k).toEnv := envok (schema_Check.ok k) (schema_reader_text.ok k) (schema_reader_uint.ok k) (schema_reader_flag.ok k) (schema_reader_value.ok k) (schema_reader_fail.ok k)
theorem segs_ok : ∀ k, ∀ s ∈ (E k).segs, SegOK (E k) f16 s
  | 0 => by
    intro s hs
    simp only [E, env, List.mem_cons, List.not_mem_nil, or_false] at hs
    rcases hs with rfl | rfl
    · intro tvs blks res h; exfalso; simp only [sg0] at h; split at h <;> simp [s0] at h
    · intro tvs blks res h; exfalso; simp only [sg1] at h; split at h <;> simp [s1] at h
  | k + 1 => by
    intro s hs
    simp only [E, env, List.mem_cons, List.not_mem_nil, or_false] at hs
    rcases hs with rfl | rfl
    · refine seg_of_ev (E := E k) (hE k) ⟨is.rvs⟩ (segs_ok k) ?_
      intro tvs blks res h
      simp only [sg0] at h
      split at h
      · exact (s0_ev.trans s0c_bind).trans h
      · simp at h
    · refine seg_of_ev (E := E k) (hE k) ⟨is.rvs⟩ (segs_ok k) ?_
      intro tvs blks res h
      simp only [sg1] at h
      split at h
      · exact (s1_ev.trans s1c_bind).trans h
      · simp at h
theorem ok (k : Nat) : CtOK prog 16 (ct (f k)) := by
  refine ct_of_ev (E := E k) is (hE k) (segs_ok k) rfl ?_
  intro tvs blks res h
  simp only [ct] at h
  split at h
  · exact (ev.trans c_bind).trans h
  · simp at h
end schema_Read
namespace transomlaw09_Plain
abbrev G : Type := Option (ByteArray × Int × (List D_api_Col))
def ct (g : G) : Ct where
  nin := 0
  mv := []
  F := fun tvs blks {β} K => match tvs, blks with
    | [], [] => (g ).bind fun r => K ⟨.v (.agg [(.d .str r.1), (.d (.int .i64) r.2.1), (.own 0)]), [some (.own T_api_Col true r.2.2)]⟩
    | _, _ => none
  legit := fun _ _ K _ h => by split at h; exact (legit1 K h :); simp at h
noncomputable def env   : FEnv := { P := prog, ct := fun m => none, N := 5, body := f20.body.getD .skip, rvs := [.cell 0 24], rts := [24], nin := 0, rmv := [0], segs := [] }
def c {β : Type}    (ret : (ByteArray × Int × (List D_api_Col)) → Option β) : Option β := (ret ((ByteArray.mk (List.toArray [(116 : UInt8)])), (1 : Int), [((ByteArray.mk (List.toArray [(107 : UInt8)])), ((2 : Int), (false, (((0 : Int), ((0 : Int), ((0 : Int), ((ByteArray.mk (List.toArray [])), ())))), ())))), ((ByteArray.mk (List.toArray [(118 : UInt8)])), ((5 : Int), (true, (((0 : Int), ((0 : Int), ((0 : Int), ((ByteArray.mk (List.toArray [])), ())))), ()))))]))
theorem c_bind {β : Type}    {ret : (ByteArray × Int × (List D_api_Col)) → Option β} : c    ret = (c    some).bind ret := by
  simp only [c, bif_bind, sum_bind, oa, os, on, ofs]
theorem ev    : evAt (env  ) [] [] [] [] some = c    (fun r => some ⟨.v (.agg [(.d .str r.1), (.d (.int .i64) r.2.1), (.own 0)]), [some (.own T_api_Col true r.2.2)]⟩) := by
  kernel_rfl
def f (k : Nat)  : Option (ByteArray × Int × (List D_api_Col)) := c    some
theorem is   : FnIs (env  ) 20 f20 := ⟨func20, rfl, rfl, rfl, by decide⟩
theorem envok    : EnvOK (env  ).toEnv := by
  intro f c h
  simp only [env] at h
  simp at h
noncomputable abbrev E (k : Nat) : FEnv := env  
theorem hE (k : Nat) : EnvOK (E k).toEnv := envok 
theorem ok (k : Nat) : CtOK prog 20 (ct (f k)) := by
  refine ct_of_ev (E := E k) is (hE k) (fun s hs => by simp [E, env] at hs) rfl ?_
  intro tvs blks res h
  simp only [ct] at h
  split at h
  · exact (ev.trans c_bind).trans h
  · simp at h
end transomlaw09_Plain
namespace api_Col_46
abbrev G : Type := (List D_api_Col) → (List D_api_Col) → Option Bool
def ct (g : G) : Ct where
  nin := 0
  mv := []
  F := fun tvs blks {β} K => match tvs, blks with
    | [.v (.one (.d (.sl (.pair .str (.pair (.int .i64) (.pair .bool (.pair (.pair (.int .i64) (.pair (.int .i64) (.pair (.int .u64) (.pair .str .unit)))) .unit))))) a0)), .v (.one (.d (.sl (.pair .str (.pair (.int .i64) (.pair .bool (.pair (.pair (.int .i64) (.pair (.int .i64) (.pair (.int .u64) (.pair .str .unit)))) .unit))))) a1))], [] => (g a0 a1).bind fun r => K ⟨.v (.one (.d .bool r)), []⟩
    | _, _ => none
  legit := fun _ _ K _ h => by split at h; exact (legit1 K h :); simp at h
abbrev S0 : Type := (List D_api_Col) → (List D_api_Col) → Int → Int → Option Bool
def sg0 (g : S0) : Seg where
  path := [4, 1, 0, 1, 1]
  prep := []
  keep := [0, 1, 12, 13]
  F := fun tvs blks {β} K => match tvs, blks with
    | [.v (.one (.d (.sl (.pair .str (.pair (.int .i64) (.pair .bool (.pair (.pair (.int .i64) (.pair (.int .i64) (.pair (.int .u64) (.pair .str .unit)))) .unit))))) x0)), .v (.one (.d (.sl (.pair .str (.pair (.int .i64) (.pair .bool (.pair (.pair (.int .i64) (.pair (.int .i64) (.pair (.int .u64) (.pair .str .unit)))) .unit))))) x1)), .v (.one (.d (.int .i64) x2)), .v (.one (.d (.int .i64) x3))], [] => (g x0 x1 x2 x3).bind fun r => K ⟨.v (.one (.d .bool r)), []⟩
    | _, _ => none
  legit := fun _ _ K _ h => by split at h; exact (legit1 K h :); simp at h
noncomputable def env  (s0 : S0) : FEnv := { P := prog, ct := fun m => none, N := 26, body := f46.body.getD .skip, rvs := [.tmp 4], rts := [4], nin := 0, rmv := [], segs := [sg0 s0] }
def c {β : Type}  (s0 : S0) (a0 : List D_api_Col) (a1 : List D_api_Col) (ret : Bool → Option β) : Option β := (bif (((List.length a0) : Int) != ((List.length a1) : Int)) then (ret (false)) else ((s0 a0 a1 ((List.length a0) : Int) (0 : Int)).bind ret))
def s0c {β : Type}  (s0 : S0) (x0 : List D_api_Col) (x1 : List D_api_Col) (x2 : Int) (x3 : Int) (ret : Bool → Option β) : Option β := (bif (decide (x3 < x2)) then (bif ((decide ((0 : Int) ≤ x3)) && (decide (x3 < ((List.length x0) : Int)))) then (bif ((decide ((0 : Int) ≤ x3)) && (decide (x3 < ((List.length x1) : Int)))) then (bif (!(((ByteArray.toList (elem T_api_Col x0 x3).1) == (ByteArray.toList (elem T_api_Col x1 x3).1)) && (((elem T_api_Col x0 x3).2.1 == (elem T_api_Col x1 x3).2.1) && (((elem T_api_Col x0 x3).2.2.1 == (elem T_api_Col x1 x3).2.2.1) && ((((elem T_api_Col x0 x3).2.2.2.1.1 == (elem T_api_Col x1 x3).2.2.2.1.1) && (((elem T_api_Col x0 x3).2.2.2.1.2.1 == (elem T_api_Col x1 x3).2.2.2.1.2.1) && (((elem T_api_Col x0 x3).2.2.2.1.2.2.1 == (elem T_api_Col x1 x3).2.2.2.1.2.2.1) && (((ByteArray.toList (elem T_api_Col x0 x3).2.2.2.1.2.2.2.1) == (ByteArray.toList (elem T_api_Col x1 x3).2.2.2.1.2.2.2.1)) && true)))) && true))))) then (ret (false)) else ((s0 x0 x1 x2 (IntKind.wrap IntKind.i64 (x3 + (1 : Int)))).bind ret)) else none) else none) else (ret (true)))
theorem c_bind {β : Type}  {s0 : S0} {a0 : List D_api_Col} {a1 : List D_api_Col} {ret : Bool → Option β} : c  s0 a0 a1 ret = (c  s0 a0 a1 some).bind ret := by
  simp only [c, bif_bind, sum_bind, oa, os, on, ofs]
theorem s0c_bind {β : Type}  {s0 : S0} {x0 : List D_api_Col} {x1 : List D_api_Col} {x2 : Int} {x3 : Int} {ret : Bool → Option β} : s0c  s0 x0 x1 x2 x3 ret = (s0c  s0 x0 x1 x2 x3 some).bind ret := by
  simp only [s0c, bif_bind, sum_bind, oa, os, on, ofs]
theorem ev  {s0 : S0} {a0 : List D_api_Col} {a1 : List D_api_Col} : evAt (env  s0) [] [0, 1] [.v (.one (.d (.sl T_api_Col) a0)), .v (.one (.d (.sl T_api_Col) a1))] [] some = c  s0 a0 a1 (fun r => some ⟨.v (.one (.d .bool r)), []⟩) := by
  kernel_rfl
theorem s0_ev  {s0 : S0} {x0 : List D_api_Col} {x1 : List D_api_Col} {x2 : Int} {x3 : Int} : evAt (env  s0) [4, 1, 0, 1, 1] [0, 1, 12, 13] [.v (.one (.d (.sl T_api_Col) x0)), .v (.one (.d (.sl T_api_Col) x1)), .v (.one (.d (.int .i64) x2)), .v (.one (.d (.int .i64) x3))] [] some = s0c  s0 x0 x1 x2 x3 (fun r => some ⟨.v (.one (.d .bool r)), []⟩) := by
  kernel_rfl
def s0 : Nat → (List D_api_Col) → (List D_api_Col) → Int → Int → Option Bool
  | 0, _, _, _, _ => none
  | k + 1, x0, x1, x2, x3 => s0c  (s0 k) x0 x1 x2 x3 some
def f (k : Nat) (a0 : List D_api_Col) (a1 : List D_api_Col) : Option Bool := c  (s0 k) a0 a1 some
theorem is  {s0 : S0} : FnIs (env  s0) 46 f46 := ⟨func46, rfl, rfl, rfl, by decide⟩
theorem envok  {s0 : S0}  : EnvOK (env  s0).toEnv := by
  intro f c h
  simp only [env] at h
  simp at h
noncomputable abbrev E (k : Nat) : FEnv := env  (s0 k)
theorem hE (k : Nat) : EnvOK (E k).toEnv := envok 
theorem segs_ok : ∀ k, ∀ s ∈ (E k).segs, SegOK (E k) f46 s
  | 0 => by
    intro s hs
    simp only [E, env, List.mem_cons, List.not_mem_nil, or_false] at hs
    rcases hs with rfl
    · intro tvs blks res h; exfalso; simp only [sg0] at h; split at h <;> simp [s0] at h
  | k + 1 => by
    intro s hs
    simp only [E, env, List.mem_cons, List.not_mem_nil, or_false] at hs
    rcases hs with rfl
    · refine seg_of_ev (E := E k) (hE k) ⟨is.rvs⟩ (segs_ok k) ?_
      intro tvs blks res h
      simp only [sg0] at h
      split at h
      · exact (s0_ev.trans s0c_bind).trans h
      · simp at h
theorem ok (k : Nat) : CtOK prog 46 (ct (f k)) := by
  refine ct_of_ev (E := E k) is (hE k) (segs_ok k) rfl ?_
  intro tvs blks res h
  simp only [ct] at h
  split at h
  · exact (ev.trans c_bind).trans h
  · simp at h
end api_Col_46
namespace schema_Same
abbrev G : Type := ByteArray → Int → (List D_api_Col) → ByteArray → Int → (List D_api_Col) → Option Bool
def ct (g : G) : Ct where
  nin := 0
  mv := []
  F := fun tvs blks {β} K => match tvs, blks with
    | [.v (.agg [(.d .str a0), (.d (.int .i64) a1), (.d (.sl (.pair .str (.pair (.int .i64) (.pair .bool (.pair (.pair (.int .i64) (.pair (.int .i64) (.pair (.int .u64) (.pair .str .unit)))) .unit))))) a2)]), .v (.agg [(.d .str a3), (.d (.int .i64) a4), (.d (.sl (.pair .str (.pair (.int .i64) (.pair .bool (.pair (.pair (.int .i64) (.pair (.int .i64) (.pair (.int .u64) (.pair .str .unit)))) .unit))))) a5)])], [] => (g a0 a1 a2 a3 a4 a5).bind fun r => K ⟨.v (.one (.d .bool r)), []⟩
    | _, _ => none
  legit := fun _ _ K _ h => by split at h; exact (legit1 K h :); simp at h
noncomputable def env (g46 : api_Col_46.G)  : FEnv := { P := prog, ct := fun m => if m = 46 then some (api_Col_46.ct g46) else none, N := 24, body := f21.body.getD .skip, rvs := [.tmp 4], rts := [4], nin := 0, rmv := [], segs := [] }
def c {β : Type} (g46 : api_Col_46.G)  (a0 : ByteArray) (a1 : Int) (a2 : List D_api_Col) (a3 : ByteArray) (a4 : Int) (a5 : List D_api_Col) (ret : Bool → Option β) : Option β := (bif ((ByteArray.toList a0) == (ByteArray.toList a3)) then (bif (a1 == a4) then ((g46 a2 a5).bind fun r0 => (ret (r0))) else (ret (false))) else (ret (false)))
theorem c_bind {β : Type} {g46 : api_Col_46.G}  {a0 : ByteArray} {a1 : Int} {a2 : List D_api_Col} {a3 : ByteArray} {a4 : Int} {a5 : List D_api_Col} {ret : Bool → Option β} : c g46  a0 a1 a2 a3 a4 a5 ret = (c g46  a0 a1 a2 a3 a4 a5 some).bind ret := by
  simp only [c, bif_bind, sum_bind, oa, os, on, ofs]
theorem ev {g46 : api_Col_46.G}  {a0 : ByteArray} {a1 : Int} {a2 : List D_api_Col} {a3 : ByteArray} {a4 : Int} {a5 : List D_api_Col} : evAt (env g46 ) [] [0, 1] [.v (.agg [(.d .str a0), (.d (.int .i64) a1), (.d (.sl T_api_Col) a2)]), .v (.agg [(.d .str a3), (.d (.int .i64) a4), (.d (.sl T_api_Col) a5)])] [] some = c g46  a0 a1 a2 a3 a4 a5 (fun r => some ⟨.v (.one (.d .bool r)), []⟩) := by
  kernel_rfl
def f (k : Nat) (a0 : ByteArray) (a1 : Int) (a2 : List D_api_Col) (a3 : ByteArray) (a4 : Int) (a5 : List D_api_Col) : Option Bool := c (api_Col_46.f k)  a0 a1 a2 a3 a4 a5 some
theorem is {g46 : api_Col_46.G}  : FnIs (env g46 ) 21 f21 := ⟨func21, rfl, rfl, rfl, by decide⟩
theorem envok {g46 : api_Col_46.G}  (h46 : CtOK prog 46 (api_Col_46.ct g46)) : EnvOK (env g46 ).toEnv := by
  intro f c h
  simp only [env] at h
  split at h
  · rename_i e; subst e; cases h; exact h46
  simp at h
noncomputable abbrev E (k : Nat) : FEnv := env (api_Col_46.f k) 
theorem hE (k : Nat) : EnvOK (E k).toEnv := envok (api_Col_46.ok k)
theorem ok (k : Nat) : CtOK prog 21 (ct (f k)) := by
  refine ct_of_ev (E := E k) is (hE k) (fun s hs => by simp [E, env] at hs) rfl ?_
  intro tvs blks res h
  simp only [ct] at h
  split at h
  · exact (ev.trans c_bind).trans h
  · simp at h
end schema_Same
namespace slices_Index_string_string
abbrev G : Type := (List ByteArray) → ByteArray → Option Int
def ct (g : G) : Ct where
  nin := 0
  mv := []
  F := fun tvs blks {β} K => match tvs, blks with
    | [.v (.one (.d (.sl .str) a0)), .v (.one (.d .str a1))], [] => (g a0 a1).bind fun r => K ⟨.v (.one (.d (.int .i64) r)), []⟩
    | _, _ => none
  legit := fun _ _ K _ h => by split at h; exact (legit1 K h :); simp at h
abbrev S0 : Type := (List ByteArray) → ByteArray → Int → Int → Option Int
def sg0 (g : S0) : Seg where
  path := [4, 1, 0, 1]
  prep := []
  keep := [0, 1, 7, 8]
  F := fun tvs blks {β} K => match tvs, blks with
    | [.v (.one (.d (.sl .str) x0)), .v (.one (.d .str x1)), .v (.one (.d (.int .i64) x2)), .v (.one (.d (.int .i64) x3))], [] => (g x0 x1 x2 x3).bind fun r => K ⟨.v (.one (.d (.int .i64) r)), []⟩
    | _, _ => none
  legit := fun _ _ K _ h => by split at h; exact (legit1 K h :); simp at h
noncomputable def env  (s0 : S0) : FEnv := { P := prog, ct := fun m => none, N := 19, body := f72.body.getD .skip, rvs := [.tmp 4], rts := [3], nin := 0, rmv := [], segs := [sg0 s0] }
def c {β : Type}  (s0 : S0) (a0 : List ByteArray) (a1 : ByteArray) (ret : Int → Option β) : Option β := ((s0 a0 a1 ((List.length a0) : Int) (0 : Int)).bind ret)
def s0c {β : Type}  (s0 : S0) (x0 : List ByteArray) (x1 : ByteArray) (x2 : Int) (x3 : Int) (ret : Int → Option β) : Option β := (bif (decide (x3 < x2)) then (bif ((decide ((0 : Int) ≤ x3)) && (decide (x3 < ((List.length x0) : Int)))) then (bif ((ByteArray.toList x1) == (ByteArray.toList (elem Ty.str x0 x3))) then (ret (x3)) else ((s0 x0 x1 x2 (IntKind.wrap IntKind.i64 (x3 + (1 : Int)))).bind ret)) else none) else (ret ((-1 : Int))))
theorem c_bind {β : Type}  {s0 : S0} {a0 : List ByteArray} {a1 : ByteArray} {ret : Int → Option β} : c  s0 a0 a1 ret = (c  s0 a0 a1 some).bind ret := by
  simp only [c, bif_bind, sum_bind, oa, os, on, ofs]
theorem s0c_bind {β : Type}  {s0 : S0} {x0 : List ByteArray} {x1 : ByteArray} {x2 : Int} {x3 : Int} {ret : Int → Option β} : s0c  s0 x0 x1 x2 x3 ret = (s0c  s0 x0 x1 x2 x3 some).bind ret := by
  simp only [s0c, bif_bind, sum_bind, oa, os, on, ofs]
theorem ev  {s0 : S0} {a0 : List ByteArray} {a1 : ByteArray} : evAt (env  s0) [] [0, 1] [.v (.one (.d (.sl .str) a0)), .v (.one (.d .str a1))] [] some = c  s0 a0 a1 (fun r => some ⟨.v (.one (.d (.int .i64) r)), []⟩) := by
  kernel_rfl
theorem s0_ev  {s0 : S0} {x0 : List ByteArray} {x1 : ByteArray} {x2 : Int} {x3 : Int} : evAt (env  s0) [4, 1, 0, 1] [0, 1, 7, 8] [.v (.one (.d (.sl .str) x0)), .v (.one (.d .str x1)), .v (.one (.d (.int .i64) x2)), .v (.one (.d (.int .i64) x3))] [] some = s0c  s0 x0 x1 x2 x3 (fun r => some ⟨.v (.one (.d (.int .i64) r)), []⟩) := by
  kernel_rfl
def s0 : Nat → (List ByteArray) → ByteArray → Int → Int → Option Int
  | 0, _, _, _, _ => none
  | k + 1, x0, x1, x2, x3 => s0c  (s0 k) x0 x1 x2 x3 some
def f (k : Nat) (a0 : List ByteArray) (a1 : ByteArray) : Option Int := c  (s0 k) a0 a1 some
theorem is  {s0 : S0} : FnIs (env  s0) 72 f72 := ⟨func72, rfl, rfl, rfl, by decide⟩
theorem envok  {s0 : S0}  : EnvOK (env  s0).toEnv := by
  intro f c h
  simp only [env] at h
  simp at h
noncomputable abbrev E (k : Nat) : FEnv := env  (s0 k)
theorem hE (k : Nat) : EnvOK (E k).toEnv := envok 
theorem segs_ok : ∀ k, ∀ s ∈ (E k).segs, SegOK (E k) f72 s
  | 0 => by
    intro s hs
    simp only [E, env, List.mem_cons, List.not_mem_nil, or_false] at hs
    rcases hs with rfl
    · intro tvs blks res h; exfalso; simp only [sg0] at h; split at h <;> simp [s0] at h
  | k + 1 => by
    intro s hs
    simp only [E, env, List.mem_cons, List.not_mem_nil, or_false] at hs
    rcases hs with rfl
    · refine seg_of_ev (E := E k) (hE k) ⟨is.rvs⟩ (segs_ok k) ?_
      intro tvs blks res h
      simp only [sg0] at h
      split at h
      · exact (s0_ev.trans s0c_bind).trans h
      · simp at h
theorem ok (k : Nat) : CtOK prog 72 (ct (f k)) := by
  refine ct_of_ev (E := E k) is (hE k) (segs_ok k) rfl ?_
  intro tvs blks res h
  simp only [ct] at h
  split at h
  · exact (ev.trans c_bind).trans h
  · simp at h
end slices_Index_string_string
namespace names_Find
abbrev G : Type := (List ByteArray) → ByteArray → Option Int
def ct (g : G) : Ct where
  nin := 0
  mv := []
  F := fun tvs blks {β} K => match tvs, blks with
    | [.v (.one (.d (.sl .str) a0)), .v (.one (.d .str a1))], [] => (g a0 a1).bind fun r => K ⟨.v (.one (.d (.int .i64) r)), []⟩
    | _, _ => none
  legit := fun _ _ K _ h => by split at h; exact (legit1 K h :); simp at h
noncomputable def env (g72 : slices_Index_string_string.G)  : FEnv := { P := prog, ct := fun m => if m = 72 then some (slices_Index_string_string.ct g72) else none, N := 8, body := f49.body.getD .skip, rvs := [.tmp 4], rts := [3], nin := 0, rmv := [], segs := [] }
def c {β : Type} (g72 : slices_Index_string_string.G)  (a0 : List ByteArray) (a1 : ByteArray) (ret : Int → Option β) : Option β := ((g72 a0 a1).bind fun r0 => (ret (r0)))
theorem c_bind {β : Type} {g72 : slices_Index_string_string.G}  {a0 : List ByteArray} {a1 : ByteArray} {ret : Int → Option β} : c g72  a0 a1 ret = (c g72  a0 a1 some).bind ret := by
  simp only [c, bif_bind, sum_bind, oa, os, on, ofs]
theorem ev {g72 : slices_Index_string_string.G}  {a0 : List ByteArray} {a1 : ByteArray} : evAt (env g72 ) [] [0, 1] [.v (.one (.d (.sl .str) a0)), .v (.one (.d .str a1))] [] some = c g72  a0 a1 (fun r => some ⟨.v (.one (.d (.int .i64) r)), []⟩) := by
  kernel_rfl
def f (k : Nat) (a0 : List ByteArray) (a1 : ByteArray) : Option Int := c (slices_Index_string_string.f k)  a0 a1 some
theorem is {g72 : slices_Index_string_string.G}  : FnIs (env g72 ) 49 f49 := ⟨func49, rfl, rfl, rfl, by decide⟩
theorem envok {g72 : slices_Index_string_string.G}  (h72 : CtOK prog 72 (slices_Index_string_string.ct g72)) : EnvOK (env g72 ).toEnv := by
  intro f c h
  simp only [env] at h
  split at h
  · rename_i e; subst e; cases h; exact h72
  simp at h
noncomputable abbrev E (k : Nat) : FEnv := env (slices_Index_string_string.f k) 
theorem hE (k : Nat) : EnvOK (E k).toEnv := envok (slices_Index_string_string.ok k)
theorem ok (k : Nat) : CtOK prog 49 (ct (f k)) := by
  refine ct_of_ev (E := E k) is (hE k) (fun s hs => by simp [E, env] at hs) rfl ?_
  intro tvs blks res h
  simp only [ct] at h
  split at h
  · exact (ev.trans c_bind).trans h
  · simp at h
end names_Find
namespace schema_Find
abbrev G : Type := ByteArray → Int → (List D_api_Col) → ByteArray → Option Int
def ct (g : G) : Ct where
  nin := 0
  mv := []
  F := fun tvs blks {β} K => match tvs, blks with
    | [.v (.agg [(.d .str a0), (.d (.int .i64) a1), (.d (.sl (.pair .str (.pair (.int .i64) (.pair .bool (.pair (.pair (.int .i64) (.pair (.int .i64) (.pair (.int .u64) (.pair .str .unit)))) .unit))))) a2)]), .v (.one (.d .str a3))], [] => (g a0 a1 a2 a3).bind fun r => K ⟨.v (.one (.d (.int .i64) r)), []⟩
    | _, _ => none
  legit := fun _ _ K _ h => by split at h; exact (legit1 K h :); simp at h
noncomputable def env (g49 : names_Find.G) (g50 : schema_words.G)  : FEnv := { P := prog, ct := fun m => if m = 49 then some (names_Find.ct g49) else if m = 50 then some (schema_words.ct g50) else none, N := 10, body := f23.body.getD .skip, rvs := [.tmp 4], rts := [3], nin := 0, rmv := [], segs := [] }
def c {β : Type} (g49 : names_Find.G) (g50 : schema_words.G)  (a0 : ByteArray) (a1 : Int) (a2 : List D_api_Col) (a3 : ByteArray) (ret : Int → Option β) : Option β := ((g50 a2).bind fun r0 => ((g49 r0 a3).bind fun r1 => (ret (r1))))
theorem c_bind {β : Type} {g49 : names_Find.G} {g50 : schema_words.G}  {a0 : ByteArray} {a1 : Int} {a2 : List D_api_Col} {a3 : ByteArray} {ret : Int → Option β} : c g49 g50  a0 a1 a2 a3 ret = (c g49 g50  a0 a1 a2 a3 some).bind ret := by
  simp only [c, bif_bind, sum_bind, oa, os, on, ofs]
theorem ev {g49 : names_Find.G} {g50 : schema_words.G}  {a0 : ByteArray} {a1 : Int} {a2 : List D_api_Col} {a3 : ByteArray} : evAt (env g49 g50 ) [] [0, 1] [.v (.agg [(.d .str a0), (.d (.int .i64) a1), (.d (.sl T_api_Col) a2)]), .v (.one (.d .str a3))] [] some = c g49 g50  a0 a1 a2 a3 (fun r => some ⟨.v (.one (.d (.int .i64) r)), []⟩) := by
  kernel_rfl
def f (k : Nat) (a0 : ByteArray) (a1 : Int) (a2 : List D_api_Col) (a3 : ByteArray) : Option Int := c (names_Find.f k) (schema_words.f k)  a0 a1 a2 a3 some
theorem is {g49 : names_Find.G} {g50 : schema_words.G}  : FnIs (env g49 g50 ) 23 f23 := ⟨func23, rfl, rfl, rfl, by decide⟩
theorem envok {g49 : names_Find.G} {g50 : schema_words.G}  (h49 : CtOK prog 49 (names_Find.ct g49)) (h50 : CtOK prog 50 (schema_words.ct g50)) : EnvOK (env g49 g50 ).toEnv := by
  intro f c h
  simp only [env] at h
  split at h
  · rename_i e; subst e; cases h; exact h49
  split at h
  · rename_i e; subst e; cases h; exact h50
  simp at h
noncomputable abbrev E (k : Nat) : FEnv := env (names_Find.f k) (schema_words.f k) 
theorem hE (k : Nat) : EnvOK (E k).toEnv := envok (names_Find.ok k) (schema_words.ok k)
theorem ok (k : Nat) : CtOK prog 23 (ct (f k)) := by
  refine ct_of_ev (E := E k) is (hE k) (fun s hs => by simp [E, env] at hs) rfl ?_
  intro tvs blks res h
  simp only [ct] at h
  split at h
  · exact (ev.trans c_bind).trans h
  · simp at h
end schema_Find
namespace schema_CheckCol
abbrev G : Type := ByteArray → Int → Bool → Int → Int → Int → ByteArray → Option Int
def ct (g : G) : Ct where
  nin := 0
  mv := []
  F := fun tvs blks {β} K => match tvs, blks with
    | [.v (.agg [(.d .str a0), (.d (.int .i64) a1), (.d .bool a2), (.d (.int .i64) a3), (.d (.int .i64) a4), (.d (.int .u64) a5), (.d .str a6)])], [] => (g a0 a1 a2 a3 a4 a5 a6).bind fun r => K ⟨.v (.one (.d (.int .i64) r)), []⟩
    | _, _ => none
  legit := fun _ _ K _ h => by split at h; exact (legit1 K h :); simp at h
noncomputable def env (g51 : schema_col.G)  : FEnv := { P := prog, ct := fun m => if m = 47 then some (schema_number.ct ) else if m = 51 then some (schema_col.ct g51) else none, N := 6, body := f24.body.getD .skip, rvs := [.tmp 2], rts := [29], nin := 0, rmv := [], segs := [] }
def c {β : Type} (g51 : schema_col.G)  (a0 : ByteArray) (a1 : Int) (a2 : Bool) (a3 : Int) (a4 : Int) (a5 : Int) (a6 : ByteArray) (ret : Int → Option β) : Option β := ((g51 a0 a1 a2 a3 a4 a5 a6).bind fun r0 => (Sum.elim (fun r1 => (ret (r1.1))) (fun r2 => (ret ((0 : Int)))) r0))
theorem c_bind {β : Type} {g51 : schema_col.G}  {a0 : ByteArray} {a1 : Int} {a2 : Bool} {a3 : Int} {a4 : Int} {a5 : Int} {a6 : ByteArray} {ret : Int → Option β} : c g51  a0 a1 a2 a3 a4 a5 a6 ret = (c g51  a0 a1 a2 a3 a4 a5 a6 some).bind ret := by
  simp only [c, bif_bind, sum_bind, oa, os, on, ofs]
theorem ev {g51 : schema_col.G}  {a0 : ByteArray} {a1 : Int} {a2 : Bool} {a3 : Int} {a4 : Int} {a5 : Int} {a6 : ByteArray} : evAt (env g51 ) [] [0] [.v (.agg [(.d .str a0), (.d (.int .i64) a1), (.d .bool a2), (.d (.int .i64) a3), (.d (.int .i64) a4), (.d (.int .u64) a5), (.d .str a6)])] [] some = c g51  a0 a1 a2 a3 a4 a5 a6 (fun r => some ⟨.v (.one (.d (.int .i64) r)), []⟩) := by
  kernel_rfl
def f (k : Nat) (a0 : ByteArray) (a1 : Int) (a2 : Bool) (a3 : Int) (a4 : Int) (a5 : Int) (a6 : ByteArray) : Option Int := c  (schema_col.f k)  a0 a1 a2 a3 a4 a5 a6 some
theorem is {g51 : schema_col.G}  : FnIs (env g51 ) 24 f24 := ⟨func24, rfl, rfl, rfl, by decide⟩
theorem envok {g51 : schema_col.G}  (h47 : CtOK prog 47 (schema_number.ct )) (h51 : CtOK prog 51 (schema_col.ct g51)) : EnvOK (env g51 ).toEnv := by
  intro f c h
  simp only [env] at h
  split at h
  · rename_i e; subst e; cases h; exact h47
  split at h
  · rename_i e; subst e; cases h; exact h51
  simp at h
noncomputable abbrev E (k : Nat) : FEnv := env  (schema_col.f k) 
theorem hE (k : Nat) : EnvOK (E k).toEnv := envok (schema_number.ok k) (schema_col.ok k)
theorem ok (k : Nat) : CtOK prog 24 (ct (f k)) := by
  refine ct_of_ev (E := E k) is (hE k) (fun s hs => by simp [E, env] at hs) rfl ?_
  intro tvs blks res h
  simp only [ct] at h
  split at h
  · exact (ev.trans c_bind).trans h
  · simp at h
end schema_CheckCol
end Go.Proofs.YtddlebbjaadbeaaGreatDoor.Aev
