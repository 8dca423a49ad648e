/- By a program of this session (AEV): functions of the program as plain functions, and that the machine does what they say. -/
import Derived.Test.YtddlebbjaadbeaaGreatDoorTys
import Derived.Test.YtddlebbjaadbeaaGreatDoorProg
import Derived.Laws.Externs
import Derived.Lib.Bytealg
import Derived.Test.YtddlebbjaadbeaaGreatDoorF0
import Derived.Test.YtddlebbjaadbeaaGreatDoorF6
import Derived.Test.YtddlebbjaadbeaaGreatDoorF9
import Derived.Test.YtddlebbjaadbeaaGreatDoorF10
import Derived.Test.YtddlebbjaadbeaaGreatDoorF15
import Derived.Test.YtddlebbjaadbeaaGreatDoorF17
import Derived.Test.YtddlebbjaadbeaaGreatDoorF18
namespace Go.Proofs.YtddlebbjaadbeaaGreatDoor.Aev
set_option linter.unusedVariables false
set_option linter.unusedSimpArgs false
set_option maxRecDepth 100000
set_option maxHeartbeats 4000000
open Go Go.Proofs.Tryz
namespace transomlaw09_SchemaBytes
abbrev G : Type := ByteArray → Int → (List D_api_Col) → ByteArray → Option Bool
def ct (g : G) : Ct where
  nin := 0
  mv := []
  F := fun tvs blks {β} K => match tvs, blks with
    | [.v (.agg [(.d .str a0), (.d (.int .i64) a1), (.d (.sl (.pair .str (.pair (.int .i64) (.pair .bool (.pair (.pair (.int .i64) (.pair (.int .i64) (.pair (.int .u64) (.pair .str .unit)))) .unit))))) a2)]), .v (.one (.d .str a3))], [] => (g a0 a1 a2 a3).bind fun r => K ⟨.v (.one (.d .bool r)), []⟩
    | _, _ => none
  legit := fun _ _ K _ h => by split at h; exact (legit1 K h :); simp at h
abbrev S0 : Type := ByteArray → Bool → ByteArray → Int → (List D_api_Col) → Option Bool
abbrev S1 : Type := ByteArray → ByteArray → Int → (List D_api_Col) → Option Bool
def sg0 (g : S0) : Seg where
  path := [1, 0, 1]
  prep := []
  keep := [1, 2, 22]
  F := fun tvs blks {β} K => match tvs, blks with
    | [.v (.one (.d .str x0)), .v (.one (.ptr 0 0)), .v (.one (.d .bool x1))], [some (.box [(.d .str x2), (.d (.int .i64) x3), (.d (.sl (.pair .str (.pair (.int .i64) (.pair .bool (.pair (.pair (.int .i64) (.pair (.int .i64) (.pair (.int .u64) (.pair .str .unit)))) .unit))))) x4)])] => (g x0 x1 x2 x3 x4).bind fun r => K ⟨.v (.one (.d .bool r)), []⟩
    | _, _ => none
  legit := fun _ _ K _ h => by split at h; exact (legit1 K h :); simp at h
def sg1 (g : S1) : Seg where
  path := [1, 1]
  prep := []
  keep := [1, 2]
  F := fun tvs blks {β} K => match tvs, blks with
    | [.v (.one (.d .str x0)), .v (.one (.ptr 0 0))], [some (.box [(.d .str x1), (.d (.int .i64) x2), (.d (.sl (.pair .str (.pair (.int .i64) (.pair .bool (.pair (.pair (.int .i64) (.pair (.int .i64) (.pair (.int .u64) (.pair .str .unit)))) .unit))))) x3)])] => (g x0 x1 x2 x3).bind fun r => K ⟨.v (.one (.d .bool r)), []⟩
    | _, _ => none
  legit := fun _ _ K _ h => by split at h; exact (legit1 K h :); simp at h
noncomputable def env (g5 : transomlaw09_Few.G) (g7 : transomlaw09_awake.G) (g14 : schema_Put.G) (g15 : transomref09_Put.G) (g16 : schema_Read.G) (g17 : transomref09_Read.G) (g18 : transomref09_Same.G) (s0 : S0) (s1 : S1) : FEnv := { P := prog, ct := fun m => if m = 5 then some (transomlaw09_Few.ct g5) else if m = 7 then some (transomlaw09_awake.ct g7) else if m = 14 then some (schema_Put.ct g14) else if m = 15 then some (transomref09_Put.ct g15) else if m = 16 then some (schema_Read.ct g16) else if m = 17 then some (transomref09_Read.ct g17) else if m = 18 then some (transomref09_Same.ct g18) else none, N := 72, body := f4.body.getD .skip, rvs := [.tmp 4], rts := [4], nin := 0, rmv := [], segs := [sg0 s0, sg1 s1] }
def c {β : Type} (g5 : transomlaw09_Few.G) (g7 : transomlaw09_awake.G) (g14 : schema_Put.G) (g15 : transomref09_Put.G) (g16 : schema_Read.G) (g17 : transomref09_Read.G) (g18 : transomref09_Same.G) (s0 : S0) (s1 : S1) (a0 : ByteArray) (a1 : Int) (a2 : List D_api_Col) (a3 : ByteArray) (ret : Bool → Option β) : Option β := ((g5 a0 a1 a2).bind fun r0 => (bif (r0 == (0 : Int)) then ((s0 a3 true a0 a1 a2).bind ret) else ((s0 a3 (decide (((ByteArray.size a3) : Int) > (2000 : Int))) a0 a1 a2).bind ret)))
def s0c {β : Type} (g5 : transomlaw09_Few.G) (g7 : transomlaw09_awake.G) (g14 : schema_Put.G) (g15 : transomref09_Put.G) (g16 : schema_Read.G) (g17 : transomref09_Read.G) (g18 : transomref09_Same.G) (s0 : S0) (s1 : S1) (x0 : ByteArray) (x1 : Bool) (x2 : ByteArray) (x3 : Int) (x4 : List D_api_Col) (ret : Bool → Option β) : Option β := (bif x1 then (g7.bind fun r0 => (ret (r0))) else ((s1 x0 x2 x3 x4).bind ret))
def s1c {β : Type} (g5 : transomlaw09_Few.G) (g7 : transomlaw09_awake.G) (g14 : schema_Put.G) (g15 : transomref09_Put.G) (g16 : schema_Read.G) (g17 : transomref09_Read.G) (g18 : transomref09_Same.G) (s0 : S0) (s1 : S1) (x0 : ByteArray) (x1 : ByteArray) (x2 : Int) (x3 : List D_api_Col) (ret : Bool → Option β) : Option β := ((g14 x1 x2 x3).bind fun r0 => ((g15 x1 x2 x3).bind fun r1 => ((g16 x0).bind fun r2 => ((g17 x0).bind fun r3 => (bif ((ByteArray.toList r0.1) == (ByteArray.toList r1.1)) then (bif (r0.2 == r1.2) then ((g18 r2.1 r2.2.1 r2.2.2.1 r3.1 r3.2.1 r3.2.2.1).bind fun r4 => (bif r4 then (bif ((ByteArray.toList r2.2.2.2.1) == (ByteArray.toList r3.2.2.2.1)) then (bif (r2.2.2.2.2 == r3.2.2.2.2) then (g7.bind fun r5 => (ret (r5))) else (ret (false))) else (ret (false))) else (ret (false)))) else (ret (false))) else (ret (false)))))))
theorem c_bind {β : Type} {g5 : transomlaw09_Few.G} {g7 : transomlaw09_awake.G} {g14 : schema_Put.G} {g15 : transomref09_Put.G} {g16 : schema_Read.G} {g17 : transomref09_Read.G} {g18 : transomref09_Same.G} {s0 : S0} {s1 : S1} {a0 : ByteArray} {a1 : Int} {a2 : List D_api_Col} {a3 : ByteArray} {ret : Bool → Option β} : c g5 g7 g14 g15 g16 g17 g18 s0 s1 a0 a1 a2 a3 ret = (c g5 g7 g14 g15 g16 g17 g18 s0 s1 a0 a1 a2 a3 some).bind ret := by
  simp only [c, bif_bind, sum_bind, oa, os, on, ofs]
theorem s0c_bind {β : Type} {g5 : transomlaw09_Few.G} {g7 : transomlaw09_awake.G} {g14 : schema_Put.G} {g15 : transomref09_Put.G} {g16 : schema_Read.G} {g17 : transomref09_Read.G} {g18 : transomref09_Same.G} {s0 : S0} {s1 : S1} {x0 : ByteArray} {x1 : Bool} {x2 : ByteArray} {x3 : Int} {x4 : List D_api_Col} {ret : Bool → Option β} : s0c g5 g7 g14 g15 g16 g17 g18 s0 s1 x0 x1 x2 x3 x4 ret = (s0c g5 g7 g14 g15 g16 g17 g18 s0 s1 x0 x1 x2 x3 x4 some).bind ret := by
  simp only [s0c, bif_bind, sum_bind, oa, os, on, ofs]
theorem s1c_bind {β : Type} {g5 : transomlaw09_Few.G} {g7 : transomlaw09_awake.G} {g14 : schema_Put.G} {g15 : transomref09_Put.G} {g16 : schema_Read.G} {g17 : transomref09_Read.G} {g18 : transomref09_Same.G} {s0 : S0} {s1 : S1} {x0 : ByteArray} {x1 : ByteArray} {x2 : Int} {x3 : List D_api_Col} {ret : Bool → Option β} : s1c g5 g7 g14 g15 g16 g17 g18 s0 s1 x0 x1 x2 x3 ret = (s1c g5 g7 g14 g15 g16 g17 g18 s0 s1 x0 x1 x2 x3 some).bind ret := by
  simp only [s1c, bif_bind, sum_bind, oa, os, on, ofs]
theorem ev {g5 : transomlaw09_Few.G} {g7 : transomlaw09_awake.G} {g14 : schema_Put.G} {g15 : transomref09_Put.G} {g16 : schema_Read.G} {g17 : transomref09_Read.G} {g18 : transomref09_Same.G} {s0 : S0} {s1 : S1} {a0 : ByteArray} {a1 : Int} {a2 : List D_api_Col} {a3 : ByteArray} : evAt (env g5 g7 g14 g15 g16 g17 g18 s0 s1) [] [0, 1] [.v (.agg [(.d .str a0), (.d (.int .i64) a1), (.d (.sl T_api_Col) a2)]), .v (.one (.d .str a3))] [] some = c g5 g7 g14 g15 g16 g17 g18 s0 s1 a0 a1 a2 a3 (fun r => some ⟨.v (.one (.d .bool r)), []⟩) := by
  kernel_rfl
theorem s0_ev {g5 : transomlaw09_Few.G} {g7 : transomlaw09_awake.G} {g14 : schema_Put.G} {g15 : transomref09_Put.G} {g16 : schema_Read.G} {g17 : transomref09_Read.G} {g18 : transomref09_Same.G} {s0 : S0} {s1 : S1} {x0 : ByteArray} {x1 : Bool} {x2 : ByteArray} {x3 : Int} {x4 : List D_api_Col} : evAt (env g5 g7 g14 g15 g16 g17 g18 s0 s1) [1, 0, 1] [1, 2, 22] [.v (.one (.d .str x0)), .v (.one (.ptr 0 0)), .v (.one (.d .bool x1))] [some (.box [(.d .str x2), (.d (.int .i64) x3), (.d (.sl T_api_Col) x4)])] some = s0c g5 g7 g14 g15 g16 g17 g18 s0 s1 x0 x1 x2 x3 x4 (fun r => some ⟨.v (.one (.d .bool r)), []⟩) := by
  kernel_rfl
theorem s1_ev {g5 : transomlaw09_Few.G} {g7 : transomlaw09_awake.G} {g14 : schema_Put.G} {g15 : transomref09_Put.G} {g16 : schema_Read.G} {g17 : transomref09_Read.G} {g18 : transomref09_Same.G} {s0 : S0} {s1 : S1} {x0 : ByteArray} {x1 : ByteArray} {x2 : Int} {x3 : List D_api_Col} : evAt (env g5 g7 g14 g15 g16 g17 g18 s0 s1) [1, 1] [1, 2] [.v (.one (.d .str x0)), .v (.one (.ptr 0 0))] [some (.box [(.d .str x1), (.d (.int .i64) x2), (.d (.sl T_api_Col) x3)])] some = s1c g5 g7 g14 g15 g16 g17 g18 s0 s1 x0 x1 x2 x3 (fun r => some ⟨.v (.one (.d .bool r)), []⟩) := by
  kernel_rfl
mutual
def s0 : Nat → ByteArray → Bool → ByteArray → Int → (List D_api_Col) → Option Bool
  | 0, _, _, _, _, _ => none
  | k + 1, x0, x1, x2, x3, x4 => s0c (transomlaw09_Few.f k) (transomlaw09_awake.f k) (schema_Put.f k) (transomref09_Put.f k) (schema_Read.f k) (transomref09_Read.f k) (transomref09_Same.f k) (s0 k) (s1 k) x0 x1 x2 x3 x4 some
def s1 : Nat → ByteArray → ByteArray → Int → (List D_api_Col) → Option Bool
  | 0, _, _, _, _ => none
  | k + 1, x0, x1, x2, x3 => s1c (transomlaw09_Few.f k) (transomlaw09_awake.f k) (schema_Put.f k) (transomref09_Put.f k) (schema_Read.f k) (transomref09_Read.f k) (transomref09_Same.f k) (s0 k) (s1 k) x0 x1 x2 x3 some
end
def f (k : Nat) (a0 : ByteArray) (a1 : Int) (a2 : List D_api_Col) (a3 : ByteArray) : Option Bool := c (transomlaw09_Few.f k) (transomlaw09_awake.f k) (schema_Put.f k) (transomref09_Put.f k) (schema_Read.f k) (transomref09_Read.f k) (transomref09_Same.f k) (s0 k) (s1 k) a0 a1 a2 a3 some
theorem is {g5 : transomlaw09_Few.G} {g7 : transomlaw09_awake.G} {g14 : schema_Put.G} {g15 : transomref09_Put.G} {g16 : schema_Read.G} {g17 : transomref09_Read.G} {g18 : transomref09_Same.G} {s0 : S0} {s1 : S1} : FnIs (env g5 g7 g14 g15 g16 g17 g18 s0 s1) 4 f4 := ⟨func4, rfl, rfl, rfl, by decide⟩
theorem envok {g5 : transomlaw09_Few.G} {g7 : transomlaw09_awake.G} {g14 : schema_Put.G} {g15 : transomref09_Put.G} {g16 : schema_Read.G} {g17 : transomref09_Read.G} {g18 : transomref09_Same.G} {s0 : S0} {s1 : S1} (h5 : CtOK prog 5 (transomlaw09_Few.ct g5)) (h7 : CtOK prog 7 (transomlaw09_awake.ct g7)) (h14 : CtOK prog 14 (schema_Put.ct g14)) (h15 : CtOK prog 15 (transomref09_Put.ct g15)) (h16 : CtOK prog 16 (schema_Read.ct g16)) (h17 : CtOK prog 17 (transomref09_Read.ct g17)) (h18 : CtOK prog 18 (transomref09_Same.ct g18)) : EnvOK (env g5 g7 g14 g15 g16 g17 g18 s0 s1).toEnv := by
  intro f c h
  simp only [env] at h
  split at h
  · rename_i e; subst e; cases h; exact h5
  split at h
  · rename_i e; subst e; cases h; exact h7
  split at h
  · rename_i e; subst e; cases h; exact h14
  split at h
  · rename_i e; subst e; cases h; exact h15
  split at h
  · rename_i e; subst e; cases h; exact h16
  split at h
  · rename_i e; subst e; cases h; exact h17
  split at h
  · rename_i e; subst e; cases h; exact h18
  simp at h
noncomputable abbrev E (k : Nat) : FEnv := env (transomlaw09_Few.f k) (transomlaw09_awake.f k) (schema_Put.f k) (transomref09_Put.f k) (schema_Read.f k) (transomref09_Read.f k) (transomref09_Same.f k) (s0 k) (s1 k)
theorem hE (k : Nat) : EnvOK (E k).toEnv := envok (transomlaw09_Few.ok k) (transomlaw09_awake.ok k) (schema_Put.ok k) (transomref09_Put.ok k) (schema_Read.ok k) (transomref09_Read.ok k) (transomref09_Same.ok k)
theorem segs_ok : ∀ k, ∀ s ∈ (E k).segs, SegOK (E k) f4 s
  | 0 => by
    intro s hs
    simp only [E, env, List.mem_cons, List.not_mem_nil, or_false] at hs
    rcases hs with rfl | rfl
    · intro tvs blks res h; exfalso; simp only [sg0] at h; split at h <;> simp [s0] at h
    · intro tvs blks res h; exfalso; simp only [sg1] at h; split at h <;> simp [s1] at h
  | k + 1 => by
    intro s hs
    simp only [E, env, List.mem_cons, List.not_mem_nil, or_false] at hs
    rcases hs with rfl | rfl
    · refine seg_of_ev (E := E k) (hE k) ⟨is.rvs⟩ (segs_ok k) ?_
      intro tvs blks res h
      simp only [sg0] at h
      split at h
      · exact (s0_ev.trans s0c_bind).trans h
      · simp at h
    · refine seg_of_ev (E := E k) (hE k) ⟨is.rvs⟩ (segs_ok k) ?_
      intro tvs blks res h
      simp only [sg1] at h
      split at h
      · exact (s1_ev.trans s1c_bind).trans h
      · simp at h
theorem ok (k : Nat) : CtOK prog 4 (ct (f k)) := by
  refine ct_of_ev (E := E k) is (hE k) (segs_ok k) rfl ?_
  intro tvs blks res h
  simp only [ct] at h
  split at h
  · exact (ev.trans c_bind).trans h
  · simp at h
end transomlaw09_SchemaBytes
end Go.Proofs.YtddlebbjaadbeaaGreatDoor.Aev
