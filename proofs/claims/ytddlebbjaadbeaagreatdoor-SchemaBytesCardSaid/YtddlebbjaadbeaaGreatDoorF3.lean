/- By a program of this session (AEV): functions of the program as plain functions, and that the machine does what they say. -/
import Derived.Test.YtddlebbjaadbeaaGreatDoorTys
import Derived.Test.YtddlebbjaadbeaaGreatDoorProg
import Derived.Laws.Externs
import Derived.Lib.Bytealg
namespace Go.Proofs.YtddlebbjaadbeaaGreatDoor.Aev
set_option linter.unusedVariables false
set_option linter.unusedSimpArgs false
set_option maxRecDepth 100000
set_option maxHeartbeats 4000000
open Go Go.Proofs.Tryz
namespace names_count
abbrev G : Type := ByteArray → (List ByteArray) → Option Int
def ct (g : G) : Ct where
  nin := 0
  mv := []
  F := fun tvs blks {β} K => match tvs, blks with
    | [.v (.one (.d .str a0)), .v (.one (.d (.sl .str) a1))], [] => (g a0 a1).bind fun r => K ⟨.v (.one (.d (.int .i64) r)), []⟩
    | _, _ => none
  legit := fun _ _ K _ h => by split at h; exact (legit1 K h :); simp at h
abbrev S0 : Type := ByteArray → Int → (List ByteArray) → Int → Int → Option Int
abbrev S1 : Type := ByteArray → Int → (List ByteArray) → Int → Int → Option Int
def sg0 (g : S0) : Seg where
  path := [4, 1, 0, 1, 1]
  prep := []
  keep := [0, 5, 8, 9, 10]
  F := fun tvs blks {β} K => match tvs, blks with
    | [.v (.one (.d .str x0)), .v (.one (.d (.int .i64) x1)), .v (.one (.d (.sl .str) x2)), .v (.one (.d (.int .i64) x3)), .v (.one (.d (.int .i64) x4))], [] => (g x0 x1 x2 x3 x4).bind fun r => K ⟨.v (.one (.d (.int .i64) r)), []⟩
    | _, _ => none
  legit := fun _ _ K _ h => by split at h; exact (legit1 K h :); simp at h
def sg1 (g : S1) : Seg where
  path := [1, 1, 1, 5, 4, 1, 0, 1, 1]
  prep := []
  keep := [0, 5, 8, 9, 10]
  F := fun tvs blks {β} K => match tvs, blks with
    | [.v (.one (.d .str x0)), .v (.one (.d (.int .i64) x1)), .v (.one (.d (.sl .str) x2)), .v (.one (.d (.int .i64) x3)), .v (.one (.d (.int .i64) x4))], [] => (g x0 x1 x2 x3 x4).bind fun r => K ⟨.v (.one (.d (.int .i64) r)), []⟩
    | _, _ => none
  legit := fun _ _ K _ h => by split at h; exact (legit1 K h :); simp at h
noncomputable def env  (s0 : S0) (s1 : S1) : FEnv := { P := prog, ct := fun m => none, N := 21, body := f96.body.getD .skip, rvs := [.tmp 4], rts := [3], nin := 0, rmv := [], segs := [sg0 s0, sg1 s1] }
def c {β : Type}  (s0 : S0) (s1 : S1) (a0 : ByteArray) (a1 : List ByteArray) (ret : Int → Option β) : Option β := ((s0 a0 (0 : Int) a1 ((List.length a1) : Int) (0 : Int)).bind ret)
def s0c {β : Type}  (s0 : S0) (s1 : S1) (x0 : ByteArray) (x1 : Int) (x2 : List ByteArray) (x3 : Int) (x4 : Int) (ret : Int → Option β) : Option β := (bif (decide (x4 < x3)) then (bif ((decide ((0 : Int) ≤ x4)) && (decide (x4 < ((List.length x2) : Int)))) then (bif ((ByteArray.toList (elem Ty.str x2 x4)) == (ByteArray.toList x0)) then ((s1 x0 (IntKind.wrap IntKind.i64 (x1 + (1 : Int))) x2 x3 x4).bind ret) else ((s1 x0 x1 x2 x3 x4).bind ret)) else none) else (ret (x1)))
def s1c {β : Type}  (s0 : S0) (s1 : S1) (x0 : ByteArray) (x1 : Int) (x2 : List ByteArray) (x3 : Int) (x4 : Int) (ret : Int → Option β) : Option β := ((s0 x0 x1 x2 x3 (IntKind.wrap IntKind.i64 (x4 + (1 : Int)))).bind ret)
theorem c_bind {β : Type}  {s0 : S0} {s1 : S1} {a0 : ByteArray} {a1 : List ByteArray} {ret : Int → Option β} : c  s0 s1 a0 a1 ret = (c  s0 s1 a0 a1 some).bind ret := by
  simp only [c, bif_bind, sum_bind, oa, os, on, ofs]
theorem s0c_bind {β : Type}  {s0 : S0} {s1 : S1} {x0 : ByteArray} {x1 : Int} {x2 : List ByteArray} {x3 : Int} {x4 : Int} {ret : Int → Option β} : s0c  s0 s1 x0 x1 x2 x3 x4 ret = (s0c  s0 s1 x0 x1 x2 x3 x4 some).bind ret := by
  simp only [s0c, bif_bind, sum_bind, oa, os, on, ofs]
theorem s1c_bind {β : Type}  {s0 : S0} {s1 : S1} {x0 : ByteArray} {x1 : Int} {x2 : List ByteArray} {x3 : Int} {x4 : Int} {ret : Int → Option β} : s1c  s0 s1 x0 x1 x2 x3 x4 ret = (s1c  s0 s1 x0 x1 x2 x3 x4 some).bind ret := by
  simp only [s1c, bif_bind, sum_bind, oa, os, on, ofs]
theorem ev  {s0 : S0} {s1 : S1} {a0 : ByteArray} {a1 : List ByteArray} : evAt (env  s0 s1) [] [0, 1] [.v (.one (.d .str a0)), .v (.one (.d (.sl .str) a1))] [] some = c  s0 s1 a0 a1 (fun r => some ⟨.v (.one (.d (.int .i64) r)), []⟩) := by
  kernel_rfl
theorem s0_ev  {s0 : S0} {s1 : S1} {x0 : ByteArray} {x1 : Int} {x2 : List ByteArray} {x3 : Int} {x4 : Int} : evAt (env  s0 s1) [4, 1, 0, 1, 1] [0, 5, 8, 9, 10] [.v (.one (.d .str x0)), .v (.one (.d (.int .i64) x1)), .v (.one (.d (.sl .str) x2)), .v (.one (.d (.int .i64) x3)), .v (.one (.d (.int .i64) x4))] [] some = s0c  s0 s1 x0 x1 x2 x3 x4 (fun r => some ⟨.v (.one (.d (.int .i64) r)), []⟩) := by
  kernel_rfl
theorem s1_ev  {s0 : S0} {s1 : S1} {x0 : ByteArray} {x1 : Int} {x2 : List ByteArray} {x3 : Int} {x4 : Int} : evAt (env  s0 s1) [1, 1, 1, 5, 4, 1, 0, 1, 1] [0, 5, 8, 9, 10] [.v (.one (.d .str x0)), .v (.one (.d (.int .i64) x1)), .v (.one (.d (.sl .str) x2)), .v (.one (.d (.int .i64) x3)), .v (.one (.d (.int .i64) x4))] [] some = s1c  s0 s1 x0 x1 x2 x3 x4 (fun r => some ⟨.v (.one (.d (.int .i64) r)), []⟩) := by
  kernel_rfl
mutual
def s0 : Nat → ByteArray → Int → (List ByteArray) → Int → Int → Option Int
  | 0, _, _, _, _, _ => none
  | k + 1, x0, x1, x2, x3, x4 => s0c  (s0 k) (s1 k) x0 x1 x2 x3 x4 some
def s1 : Nat → ByteArray → Int → (List ByteArray) → Int → Int → Option Int
  | 0, _, _, _, _, _ => none
  | k + 1, x0, x1, x2, x3, x4 => s1c  (s0 k) (s1 k) x0 x1 x2 x3 x4 some
end
def f (k : Nat) (a0 : ByteArray) (a1 : List ByteArray) : Option Int := c  (s0 k) (s1 k) a0 a1 some
theorem is  {s0 : S0} {s1 : S1} : FnIs (env  s0 s1) 96 f96 := ⟨func96, rfl, rfl, rfl, by decide⟩
theorem envok  {s0 : S0} {s1 : S1}  : EnvOK (env  s0 s1).toEnv := by
  intro f c h
  simp only [env] at h
  simp at h
noncomputable abbrev E (k : Nat) : FEnv := env  (s0 k) (s1 k)
theorem hE (k : Nat) : EnvOK (E k).toEnv := envok 
theorem segs_ok : ∀ k, ∀ s ∈ (E k).segs, SegOK (E k) f96 s
  | 0 => by
    intro s hs
    simp only [E, env, List.mem_cons, List.not_mem_nil, or_false] at hs
    rcases hs with rfl | rfl
    · intro tvs blks res h; exfalso; simp only [sg0] at h; split at h <;> simp [s0] at h
    · intro tvs blks res h; exfalso; simp only [sg1] at h; split at h <;> simp [s1] at h
  | k + 1 => by
    intro s hs
    simp only [E, env, List.mem_cons, List.not_mem_nil, or_false] at hs
    rcases hs with rfl | rfl
    · refine seg_of_ev (E := E k) (hE k) ⟨is.rvs⟩ (segs_ok k) ?_
      intro tvs blks res h
      simp only [sg0] at h
      split at h
      · exact (s0_ev.trans s0c_bind).trans h
      · simp at h
    · refine seg_of_ev (E := E k) (hE k) ⟨is.rvs⟩ (segs_ok k) ?_
      intro tvs blks res h
      simp only [sg1] at h
      split at h
      · exact (s1_ev.trans s1c_bind).trans h
      · simp at h
theorem ok (k : Nat) : CtOK prog 96 (ct (f k)) := by
  refine ct_of_ev (E := E k) is (hE k) (segs_ok k) rfl ?_
  intro tvs blks res h
  simp only [ct] at h
  split at h
  · exact (ev.trans c_bind).trans h
  · simp at h
end names_count
namespace names_Unlike
abbrev G : Type := (List ByteArray) → Option Bool
def ct (g : G) : Ct where
  nin := 0
  mv := []
  F := fun tvs blks {β} K => match tvs, blks with
    | [.v (.one (.d (.sl .str) a0))], [] => (g a0).bind fun r => K ⟨.v (.one (.d .bool r)), []⟩
    | _, _ => none
  legit := fun _ _ K _ h => by split at h; exact (legit1 K h :); simp at h
abbrev S0 : Type := (List ByteArray) → (List ByteArray) → Int → Int → Option Bool
def sg0 (g : S0) : Seg where
  path := [4, 1, 0, 1]
  prep := []
  keep := [0, 5, 6, 7]
  F := fun tvs blks {β} K => match tvs, blks with
    | [.v (.one (.d (.sl .str) x0)), .v (.one (.d (.sl .str) x1)), .v (.one (.d (.int .i64) x2)), .v (.one (.d (.int .i64) x3))], [] => (g x0 x1 x2 x3).bind fun r => K ⟨.v (.one (.d .bool r)), []⟩
    | _, _ => none
  legit := fun _ _ K _ h => by split at h; exact (legit1 K h :); simp at h
noncomputable def env (g96 : names_count.G) (s0 : S0) : FEnv := { P := prog, ct := fun m => if m = 96 then some (names_count.ct g96) else none, N := 16, body := f69.body.getD .skip, rvs := [.tmp 2], rts := [4], nin := 0, rmv := [], segs := [sg0 s0] }
def c {β : Type} (g96 : names_count.G) (s0 : S0) (a0 : List ByteArray) (ret : Bool → Option β) : Option β := ((s0 a0 a0 ((List.length a0) : Int) (0 : Int)).bind ret)
def s0c {β : Type} (g96 : names_count.G) (s0 : S0) (x0 : List ByteArray) (x1 : List ByteArray) (x2 : Int) (x3 : Int) (ret : Bool → Option β) : Option β := (bif (decide (x3 < x2)) then (bif ((decide ((0 : Int) ≤ x3)) && (decide (x3 < ((List.length x1) : Int)))) then ((g96 (elem Ty.str x1 x3) x0).bind fun r0 => (bif (decide (r0 > (1 : Int))) then (ret (false)) else ((s0 x0 x1 x2 (IntKind.wrap IntKind.i64 (x3 + (1 : Int)))).bind ret))) else none) else (ret (true)))
theorem c_bind {β : Type} {g96 : names_count.G} {s0 : S0} {a0 : List ByteArray} {ret : Bool → Option β} : c g96 s0 a0 ret = (c g96 s0 a0 some).bind ret := by
  simp only [c, bif_bind, sum_bind, oa, os, on, ofs]
theorem s0c_bind {β : Type} {g96 : names_count.G} {s0 : S0} {x0 : List ByteArray} {x1 : List ByteArray} {x2 : Int} {x3 : Int} {ret : Bool → Option β} : s0c g96 s0 x0 x1 x2 x3 ret = (s0c g96 s0 x0 x1 x2 x3 some).bind ret := by
  simp only [s0c, bif_bind, sum_bind, oa, os, on, ofs]
theorem ev {g96 : names_count.G} {s0 : S0} {a0 : List ByteArray} : evAt (env g96 s0) [] [0] [.v (.one (.d (.sl .str) a0))] [] some = c g96 s0 a0 (fun r => some ⟨.v (.one (.d .bool r)), []⟩) := by
  kernel_rfl
theorem s0_ev {g96 : names_count.G} {s0 : S0} {x0 : List ByteArray} {x1 : List ByteArray} {x2 : Int} {x3 : Int} : evAt (env g96 s0) [4, 1, 0, 1] [0, 5, 6, 7] [.v (.one (.d (.sl .str) x0)), .v (.one (.d (.sl .str) x1)), .v (.one (.d (.int .i64) x2)), .v (.one (.d (.int .i64) x3))] [] some = s0c g96 s0 x0 x1 x2 x3 (fun r => some ⟨.v (.one (.d .bool r)), []⟩) := by
  kernel_rfl
def s0 : Nat → (List ByteArray) → (List ByteArray) → Int → Int → Option Bool
  | 0, _, _, _, _ => none
  | k + 1, x0, x1, x2, x3 => s0c (names_count.f k) (s0 k) x0 x1 x2 x3 some
def f (k : Nat) (a0 : List ByteArray) : Option Bool := c (names_count.f k) (s0 k) a0 some
theorem is {g96 : names_count.G} {s0 : S0} : FnIs (env g96 s0) 69 f69 := ⟨func69, rfl, rfl, rfl, by decide⟩
theorem envok {g96 : names_count.G} {s0 : S0} (h96 : CtOK prog 96 (names_count.ct g96)) : EnvOK (env g96 s0).toEnv := by
  intro f c h
  simp only [env] at h
  split at h
  · rename_i e; subst e; cases h; exact h96
  simp at h
noncomputable abbrev E (k : Nat) : FEnv := env (names_count.f k) (s0 k)
theorem hE (k : Nat) : EnvOK (E k).toEnv := envok (names_count.ok k)
theorem segs_ok : ∀ k, ∀ s ∈ (E k).segs, SegOK (E k) f69 s
  | 0 => by
    intro s hs
    simp only [E, env, List.mem_cons, List.not_mem_nil, or_false] at hs
    rcases hs with rfl
    · intro tvs blks res h; exfalso; simp only [sg0] at h; split at h <;> simp [s0] at h
  | k + 1 => by
    intro s hs
    simp only [E, env, List.mem_cons, List.not_mem_nil, or_false] at hs
    rcases hs with rfl
    · refine seg_of_ev (E := E k) (hE k) ⟨is.rvs⟩ (segs_ok k) ?_
      intro tvs blks res h
      simp only [sg0] at h
      split at h
      · exact (s0_ev.trans s0c_bind).trans h
      · simp at h
theorem ok (k : Nat) : CtOK prog 69 (ct (f k)) := by
  refine ct_of_ev (E := E k) is (hE k) (segs_ok k) rfl ?_
  intro tvs blks res h
  simp only [ct] at h
  split at h
  · exact (ev.trans c_bind).trans h
  · simp at h
end names_Unlike
namespace schema_table_1
abbrev G : Type := ByteArray → Int → Bool → Int → Int → Int → ByteArray → Option Bool
def ct (g : G) : Ct where
  nin := 0
  mv := []
  F := fun tvs blks {β} K => match tvs, blks with
    | [.v (.agg [(.d .str a0), (.d (.int .i64) a1), (.d .bool a2), (.d (.int .i64) a3), (.d (.int .i64) a4), (.d (.int .u64) a5), (.d .str a6)])], [] => (g a0 a1 a2 a3 a4 a5 a6).bind fun r => K ⟨.v (.one (.d .bool r)), []⟩
    | _, _ => none
  legit := fun _ _ K _ h => by split at h; exact (legit1 K h :); simp at h
noncomputable def env   : FEnv := { P := prog, ct := fun m => none, N := 5, body := f71.body.getD .skip, rvs := [.tmp 2], rts := [4], nin := 0, rmv := [], segs := [] }
def c {β : Type}   (a0 : ByteArray) (a1 : Int) (a2 : Bool) (a3 : Int) (a4 : Int) (a5 : Int) (a6 : ByteArray) (ret : Bool → Option β) : Option β := (ret (a2))
theorem c_bind {β : Type}   {a0 : ByteArray} {a1 : Int} {a2 : Bool} {a3 : Int} {a4 : Int} {a5 : Int} {a6 : ByteArray} {ret : Bool → Option β} : c   a0 a1 a2 a3 a4 a5 a6 ret = (c   a0 a1 a2 a3 a4 a5 a6 some).bind ret := by
  simp only [c, bif_bind, sum_bind, oa, os, on, ofs]
theorem ev   {a0 : ByteArray} {a1 : Int} {a2 : Bool} {a3 : Int} {a4 : Int} {a5 : Int} {a6 : ByteArray} : evAt (env  ) [] [0] [.v (.agg [(.d .str a0), (.d (.int .i64) a1), (.d .bool a2), (.d (.int .i64) a3), (.d (.int .i64) a4), (.d (.int .u64) a5), (.d .str a6)])] [] some = c   a0 a1 a2 a3 a4 a5 a6 (fun r => some ⟨.v (.one (.d .bool r)), []⟩) := by
  kernel_rfl
def f (k : Nat) (a0 : ByteArray) (a1 : Int) (a2 : Bool) (a3 : Int) (a4 : Int) (a5 : Int) (a6 : ByteArray) : Option Bool := c   a0 a1 a2 a3 a4 a5 a6 some
theorem is   : FnIs (env  ) 71 f71 := ⟨func71, rfl, rfl, rfl, by decide⟩
theorem envok    : EnvOK (env  ).toEnv := by
  intro f c h
  simp only [env] at h
  simp at h
noncomputable abbrev E (k : Nat) : FEnv := env  
theorem hE (k : Nat) : EnvOK (E k).toEnv := envok 
theorem ok (k : Nat) : CtOK prog 71 (ct (f k)) := by
  refine ct_of_ev (E := E k) is (hE k) (fun s hs => by simp [E, env] at hs) rfl ?_
  intro tvs blks res h
  simp only [ct] at h
  split at h
  · exact (ev.trans c_bind).trans h
  · simp at h
end schema_table_1
namespace api_Col_97
abbrev G : Type := (List D_api_Col) → Option Int
def ct (g : G) : Ct where
  nin := 0
  mv := []
  F := fun tvs blks {β} K => match tvs, blks with
    | [.v (.one (.d (.sl (.pair .str (.pair (.int .i64) (.pair .bool (.pair (.pair (.int .i64) (.pair (.int .i64) (.pair (.int .u64) (.pair .str .unit)))) .unit))))) a0)), .v (.one (.fn 71 []))], [] => (g a0).bind fun r => K ⟨.v (.one (.d (.int .i64) r)), []⟩
    | _, _ => none
  legit := fun _ _ K _ h => by split at h; exact (legit1 K h :); simp at h
abbrev S0 : Type := (List D_api_Col) → Int → Int → Option Int
def sg0 (g : S0) : Seg where
  path := [4, 1, 0, 1]
  prep := []
  keep := [0, 1, 7, 8]
  F := fun tvs blks {β} K => match tvs, blks with
    | [.v (.one (.d (.sl (.pair .str (.pair (.int .i64) (.pair .bool (.pair (.pair (.int .i64) (.pair (.int .i64) (.pair (.int .u64) (.pair .str .unit)))) .unit))))) x0)), .v (.one (.fn 71 [])), .v (.one (.d (.int .i64) x1)), .v (.one (.d (.int .i64) x2))], [] => (g x0 x1 x2).bind fun r => K ⟨.v (.one (.d (.int .i64) r)), []⟩
    | _, _ => none
  legit := fun _ _ K _ h => by split at h; exact (legit1 K h :); simp at h
noncomputable def env (g71 : schema_table_1.G) (s0 : S0) : FEnv := { P := prog, ct := fun m => if m = 71 then some (schema_table_1.ct g71) else none, N := 19, body := f97.body.getD .skip, rvs := [.tmp 4], rts := [3], nin := 0, rmv := [], segs := [sg0 s0] }
def c {β : Type} (g71 : schema_table_1.G) (s0 : S0) (a0 : List D_api_Col) (ret : Int → Option β) : Option β := ((s0 a0 ((List.length a0) : Int) (0 : Int)).bind ret)
def s0c {β : Type} (g71 : schema_table_1.G) (s0 : S0) (x0 : List D_api_Col) (x1 : Int) (x2 : Int) (ret : Int → Option β) : Option β := (bif (decide (x2 < x1)) then (bif ((decide ((0 : Int) ≤ x2)) && (decide (x2 < ((List.length x0) : Int)))) then ((g71 (elem T_api_Col x0 x2).1 (elem T_api_Col x0 x2).2.1 (elem T_api_Col x0 x2).2.2.1 (elem T_api_Col x0 x2).2.2.2.1.1 (elem T_api_Col x0 x2).2.2.2.1.2.1 (elem T_api_Col x0 x2).2.2.2.1.2.2.1 (elem T_api_Col x0 x2).2.2.2.1.2.2.2.1).bind fun r0 => (bif r0 then (ret (x2)) else ((s0 x0 x1 (IntKind.wrap IntKind.i64 (x2 + (1 : Int)))).bind ret))) else none) else (ret ((-1 : Int))))
theorem c_bind {β : Type} {g71 : schema_table_1.G} {s0 : S0} {a0 : List D_api_Col} {ret : Int → Option β} : c g71 s0 a0 ret = (c g71 s0 a0 some).bind ret := by
  simp only [c, bif_bind, sum_bind, oa, os, on, ofs]
theorem s0c_bind {β : Type} {g71 : schema_table_1.G} {s0 : S0} {x0 : List D_api_Col} {x1 : Int} {x2 : Int} {ret : Int → Option β} : s0c g71 s0 x0 x1 x2 ret = (s0c g71 s0 x0 x1 x2 some).bind ret := by
  simp only [s0c, bif_bind, sum_bind, oa, os, on, ofs]
theorem ev {g71 : schema_table_1.G} {s0 : S0} {a0 : List D_api_Col} : evAt (env g71 s0) [] [0, 1] [.v (.one (.d (.sl T_api_Col) a0)), .v (.one (.fn 71 []))] [] some = c g71 s0 a0 (fun r => some ⟨.v (.one (.d (.int .i64) r)), []⟩) := by
  kernel_rfl
theorem s0_ev {g71 : schema_table_1.G} {s0 : S0} {x0 : List D_api_Col} {x1 : Int} {x2 : Int} : evAt (env g71 s0) [4, 1, 0, 1] [0, 1, 7, 8] [.v (.one (.d (.sl T_api_Col) x0)), .v (.one (.fn 71 [])), .v (.one (.d (.int .i64) x1)), .v (.one (.d (.int .i64) x2))] [] some = s0c g71 s0 x0 x1 x2 (fun r => some ⟨.v (.one (.d (.int .i64) r)), []⟩) := by
  kernel_rfl
def s0 : Nat → (List D_api_Col) → Int → Int → Option Int
  | 0, _, _, _ => none
  | k + 1, x0, x1, x2 => s0c (schema_table_1.f k) (s0 k) x0 x1 x2 some
def f (k : Nat) (a0 : List D_api_Col) : Option Int := c (schema_table_1.f k) (s0 k) a0 some
theorem is {g71 : schema_table_1.G} {s0 : S0} : FnIs (env g71 s0) 97 f97 := ⟨func97, rfl, rfl, rfl, by decide⟩
theorem envok {g71 : schema_table_1.G} {s0 : S0} (h71 : CtOK prog 71 (schema_table_1.ct g71)) : EnvOK (env g71 s0).toEnv := by
  intro f c h
  simp only [env] at h
  split at h
  · rename_i e; subst e; cases h; exact h71
  simp at h
noncomputable abbrev E (k : Nat) : FEnv := env (schema_table_1.f k) (s0 k)
theorem hE (k : Nat) : EnvOK (E k).toEnv := envok (schema_table_1.ok k)
theorem segs_ok : ∀ k, ∀ s ∈ (E k).segs, SegOK (E k) f97 s
  | 0 => by
    intro s hs
    simp only [E, env, List.mem_cons, List.not_mem_nil, or_false] at hs
    rcases hs with rfl
    · intro tvs blks res h; exfalso; simp only [sg0] at h; split at h <;> simp [s0] at h
  | k + 1 => by
    intro s hs
    simp only [E, env, List.mem_cons, List.not_mem_nil, or_false] at hs
    rcases hs with rfl
    · refine seg_of_ev (E := E k) (hE k) ⟨is.rvs⟩ (segs_ok k) ?_
      intro tvs blks res h
      simp only [sg0] at h
      split at h
      · exact (s0_ev.trans s0c_bind).trans h
      · simp at h
theorem ok (k : Nat) : CtOK prog 97 (ct (f k)) := by
  refine ct_of_ev (E := E k) is (hE k) (segs_ok k) rfl ?_
  intro tvs blks res h
  simp only [ct] at h
  split at h
  · exact (ev.trans c_bind).trans h
  · simp at h
end api_Col_97
namespace api_Col_70
abbrev G : Type := (List D_api_Col) → Option Bool
def ct (g : G) : Ct where
  nin := 0
  mv := []
  F := fun tvs blks {β} K => match tvs, blks with
    | [.v (.one (.d (.sl (.pair .str (.pair (.int .i64) (.pair .bool (.pair (.pair (.int .i64) (.pair (.int .i64) (.pair (.int .u64) (.pair .str .unit)))) .unit))))) a0)), .v (.one (.fn 71 []))], [] => (g a0).bind fun r => K ⟨.v (.one (.d .bool r)), []⟩
    | _, _ => none
  legit := fun _ _ K _ h => by split at h; exact (legit1 K h :); simp at h
noncomputable def env (g71 : schema_table_1.G) (g97 : api_Col_97.G)  : FEnv := { P := prog, ct := fun m => if m = 71 then some (schema_table_1.ct g71) else if m = 97 then some (api_Col_97.ct g97) else none, N := 9, body := f70.body.getD .skip, rvs := [.tmp 4], rts := [4], nin := 0, rmv := [], segs := [] }
def c {β : Type} (g71 : schema_table_1.G) (g97 : api_Col_97.G)  (a0 : List D_api_Col) (ret : Bool → Option β) : Option β := ((g97 a0).bind fun r0 => (ret ((decide (r0 ≥ (0 : Int))))))
theorem c_bind {β : Type} {g71 : schema_table_1.G} {g97 : api_Col_97.G}  {a0 : List D_api_Col} {ret : Bool → Option β} : c g71 g97  a0 ret = (c g71 g97  a0 some).bind ret := by
  simp only [c, bif_bind, sum_bind, oa, os, on, ofs]
theorem ev {g71 : schema_table_1.G} {g97 : api_Col_97.G}  {a0 : List D_api_Col} : evAt (env g71 g97 ) [] [0, 1] [.v (.one (.d (.sl T_api_Col) a0)), .v (.one (.fn 71 []))] [] some = c g71 g97  a0 (fun r => some ⟨.v (.one (.d .bool r)), []⟩) := by
  kernel_rfl
def f (k : Nat) (a0 : List D_api_Col) : Option Bool := c (schema_table_1.f k) (api_Col_97.f k)  a0 some
theorem is {g71 : schema_table_1.G} {g97 : api_Col_97.G}  : FnIs (env g71 g97 ) 70 f70 := ⟨func70, rfl, rfl, rfl, by decide⟩
theorem envok {g71 : schema_table_1.G} {g97 : api_Col_97.G}  (h71 : CtOK prog 71 (schema_table_1.ct g71)) (h97 : CtOK prog 97 (api_Col_97.ct g97)) : EnvOK (env g71 g97 ).toEnv := by
  intro f c h
  simp only [env] at h
  split at h
  · rename_i e; subst e; cases h; exact h71
  split at h
  · rename_i e; subst e; cases h; exact h97
  simp at h
noncomputable abbrev E (k : Nat) : FEnv := env (schema_table_1.f k) (api_Col_97.f k) 
theorem hE (k : Nat) : EnvOK (E k).toEnv := envok (schema_table_1.ok k) (api_Col_97.ok k)
theorem ok (k : Nat) : CtOK prog 70 (ct (f k)) := by
  refine ct_of_ev (E := E k) is (hE k) (fun s hs => by simp [E, env] at hs) rfl ?_
  intro tvs blks res h
  simp only [ct] at h
  split at h
  · exact (ev.trans c_bind).trans h
  · simp at h
end api_Col_70
end Go.Proofs.YtddlebbjaadbeaaGreatDoor.Aev
