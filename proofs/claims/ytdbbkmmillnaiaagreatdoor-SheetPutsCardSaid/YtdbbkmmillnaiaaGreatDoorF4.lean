/- By a program of this session (AEV): functions of the program as plain functions, and that the machine does what they say. -/
import Derived.Test.YtdbbkmmillnaiaaGreatDoorTys
import Derived.Test.YtdbbkmmillnaiaaGreatDoorProg
import Derived.Laws.Externs
import Derived.Lib.Bytealg
namespace Go.Proofs.YtdbbkmmillnaiaaGreatDoor.Aev
set_option linter.unusedVariables false
set_option linter.unusedSimpArgs false
set_option maxRecDepth 100000
set_option maxHeartbeats 4000000
open Go Go.Proofs.Tryz
namespace names_count
abbrev G : Type := ByteArray → (List ByteArray) → Option Int
def ct (g : G) : Ct where
  nin := 0
  mv := []
  F := fun tvs blks {β} K => match tvs, blks with
    | [.v (.one (.d .str a0)), .v (.one (.d (.sl .str) a1))], [] => (g a0 a1).bind fun r => K ⟨.v (.one (.d (.int .i64) r)), []⟩
    | _, _ => none
  legit := fun _ _ K _ h => by split at h; exact (legit1 K h :); simp at h
abbrev S0 : Type := ByteArray → Int → (List ByteArray) → Int → Int → Option Int
abbrev S1 : Type := ByteArray → Int → (List ByteArray) → Int → Int → Option Int
def sg0 (g : S0) : Seg where
  path := [4, 1, 0, 1, 1]
  prep := []
  keep := [0, 5, 8, 9, 10]
  F := fun tvs blks {β} K => match tvs, blks with
    | [.v (.one (.d .str x0)), .v (.one (.d (.int .i64) x1)), .v (.one (.d (.sl .str) x2)), .v (.one (.d (.int .i64) x3)), .v (.one (.d (.int .i64) x4))], [] => (g x0 x1 x2 x3 x4).bind fun r => K ⟨.v (.one (.d (.int .i64) r)), []⟩
    | _, _ => none
  legit := fun _ _ K _ h => by split at h; exact (legit1 K h :); simp at h
def sg1 (g : S1) : Seg where
  path := [1, 1, 1, 5, 4, 1, 0, 1, 1]
  prep := []
  keep := [0, 5, 8, 9, 10]
  F := fun tvs blks {β} K => match tvs, blks with
    | [.v (.one (.d .str x0)), .v (.one (.d (.int .i64) x1)), .v (.one (.d (.sl .str) x2)), .v (.one (.d (.int .i64) x3)), .v (.one (.d (.int .i64) x4))], [] => (g x0 x1 x2 x3 x4).bind fun r => K ⟨.v (.one (.d (.int .i64) r)), []⟩
    | _, _ => none
  legit := fun _ _ K _ h => by split at h; exact (legit1 K h :); simp at h
noncomputable def env  (s0 : S0) (s1 : S1) : FEnv := { P := prog, ct := fun m => none, N := 21, body := f77.body.getD .skip, rvs := [.tmp 4], rts := [3], nin := 0, rmv := [], segs := [sg0 s0, sg1 s1] }
def c {β : Type}  (s0 : S0) (s1 : S1) (a0 : ByteArray) (a1 : List ByteArray) (ret : Int → Option β) : Option β := ((s0 a0 (0 : Int) a1 ((List.length a1) : Int) (0 : Int)).bind ret)
def s0c {β : Type}  (s0 : S0) (s1 : S1) (x0 : ByteArray) (x1 : Int) (x2 : List ByteArray) (x3 : Int) (x4 : Int) (ret : Int → Option β) : Option β := (bif (decide (x4 < x3)) then (bif ((decide ((0 : Int) ≤ x4)) && (decide (x4 < ((List.length x2) : Int)))) then (bif ((ByteArray.toList (elem Ty.str x2 x4)) == (ByteArray.toList x0)) then ((s1 x0 (IntKind.wrap IntKind.i64 (x1 + (1 : Int))) x2 x3 x4).bind ret) else ((s1 x0 x1 x2 x3 x4).bind ret)) else none) else (ret (x1)))
def s1c {β : Type}  (s0 : S0) (s1 : S1) (x0 : ByteArray) (x1 : Int) (x2 : List ByteArray) (x3 : Int) (x4 : Int) (ret : Int → Option β) : Option β := ((s0 x0 x1 x2 x3 (IntKind.wrap IntKind.i64 (x4 + (1 : Int)))).bind ret)
theorem c_bind {β : Type}  {s0 : S0} {s1 : S1} {a0 : ByteArray} {a1 : List ByteArray} {ret : Int → Option β} : c  s0 s1 a0 a1 ret = (c  s0 s1 a0 a1 some).bind ret := by
  simp only [c, bif_bind, sum_bind, oa, os, on, ofs]
theorem s0c_bind {β : Type}  {s0 : S0} {s1 : S1} {x0 : ByteArray} {x1 : Int} {x2 : List ByteArray} {x3 : Int} {x4 : Int} {ret : Int → Option β} : s0c  s0 s1 x0 x1 x2 x3 x4 ret = (s0c  s0 s1 x0 x1 x2 x3 x4 some).bind ret := by
  simp only [s0c, bif_bind, sum_bind, oa, os, on, ofs]
theorem s1c_bind {β : Type}  {s0 : S0} {s1 : S1} {x0 : ByteArray} {x1 : Int} {x2 : List ByteArray} {x3 : Int} {x4 : Int} {ret : Int → Option β} : s1c  s0 s1 x0 x1 x2 x3 x4 ret = (s1c  s0 s1 x0 x1 x2 x3 x4 some).bind ret := by
  simp only [s1c, bif_bind, sum_bind, oa, os, on, ofs]
theorem ev  {s0 : S0} {s1 : S1} {a0 : ByteArray} {a1 : List ByteArray} : evAt (env  s0 s1) [] [0, 1] [.v (.one (.d .str a0)), .v (.one (.d (.sl .str) a1))] [] some = c  s0 s1 a0 a1 (fun r => some ⟨.v (.one (.d (.int .i64) r)), []⟩) := by
  kernel_rfl
theorem s0_ev  {s0 : S0} {s1 : S1} {x0 : ByteArray} {x1 : Int} {x2 : List ByteArray} {x3 : Int} {x4 : Int} : evAt (env  s0 s1) [4, 1, 0, 1, 1] [0, 5, 8, 9, 10] [.v (.one (.d .str x0)), .v (.one (.d (.int .i64) x1)), .v (.one (.d (.sl .str) x2)), .v (.one (.d (.int .i64) x3)), .v (.one (.d (.int .i64) x4))] [] some = s0c  s0 s1 x0 x1 x2 x3 x4 (fun r => some ⟨.v (.one (.d (.int .i64) r)), []⟩) := by
  kernel_rfl
theorem s1_ev  {s0 : S0} {s1 : S1} {x0 : ByteArray} {x1 : Int} {x2 : List ByteArray} {x3 : Int} {x4 : Int} : evAt (env  s0 s1) [1, 1, 1, 5, 4, 1, 0, 1, 1] [0, 5, 8, 9, 10] [.v (.one (.d .str x0)), .v (.one (.d (.int .i64) x1)), .v (.one (.d (.sl .str) x2)), .v (.one (.d (.int .i64) x3)), .v (.one (.d (.int .i64) x4))] [] some = s1c  s0 s1 x0 x1 x2 x3 x4 (fun r => some ⟨.v (.one (.d (.int .i64) r)), []⟩) := by
  kernel_rfl
mutual
def s0 : Nat → ByteArray → Int → (List ByteArray) → Int → Int → Option Int
  | 0, _, _, _, _, _ => none
  | k + 1, x0, x1, x2, x3, x4 => s0c  (s0 k) (s1 k) x0 x1 x2 x3 x4 some
def s1 : Nat → ByteArray → Int → (List ByteArray) → Int → Int → Option Int
  | 0, _, _, _, _, _ => none
  | k + 1, x0, x1, x2, x3, x4 => s1c  (s0 k) (s1 k) x0 x1 x2 x3 x4 some
end
def f (k : Nat) (a0 : ByteArray) (a1 : List ByteArray) : Option Int := c  (s0 k) (s1 k) a0 a1 some
theorem is  {s0 : S0} {s1 : S1} : FnIs (env  s0 s1) 77 f77 := ⟨func77, rfl, rfl, rfl, by decide⟩
theorem envok  {s0 : S0} {s1 : S1}  : EnvOK (env  s0 s1).toEnv := by
  intro f c h
  simp only [env] at h
  simp at h
noncomputable abbrev E (k : Nat) : FEnv := env  (s0 k) (s1 k)
theorem hE (k : Nat) : EnvOK (E k).toEnv := envok 
theorem segs_ok : ∀ k, ∀ s ∈ (E k).segs, SegOK (E k) f77 s
  | 0 => by
    intro s hs
    simp only [E, env, List.mem_cons, List.not_mem_nil, or_false] at hs
    rcases hs with rfl | rfl
    · intro tvs blks res h; exfalso; simp only [sg0] at h; split at h <;> simp [s0] at h
    · intro tvs blks res h; exfalso; simp only [sg1] at h; split at h <;> simp [s1] at h
  | k + 1 => by
    intro s hs
    simp only [E, env, List.mem_cons, List.not_mem_nil, or_false] at hs
    rcases hs with rfl | rfl
    · refine seg_of_ev (E := E k) (hE k) ⟨is.rvs⟩ (segs_ok k) ?_
      intro tvs blks res h
      simp only [sg0] at h
      split at h
      · exact (s0_ev.trans s0c_bind).trans h
      · simp at h
    · refine seg_of_ev (E := E k) (hE k) ⟨is.rvs⟩ (segs_ok k) ?_
      intro tvs blks res h
      simp only [sg1] at h
      split at h
      · exact (s1_ev.trans s1c_bind).trans h
      · simp at h
theorem ok (k : Nat) : CtOK prog 77 (ct (f k)) := by
  refine ct_of_ev (E := E k) is (hE k) (segs_ok k) rfl ?_
  intro tvs blks res h
  simp only [ct] at h
  split at h
  · exact (ev.trans c_bind).trans h
  · simp at h
end names_count
namespace names_Unlike
abbrev G : Type := (List ByteArray) → Option Bool
def ct (g : G) : Ct where
  nin := 0
  mv := []
  F := fun tvs blks {β} K => match tvs, blks with
    | [.v (.one (.d (.sl .str) a0))], [] => (g a0).bind fun r => K ⟨.v (.one (.d .bool r)), []⟩
    | _, _ => none
  legit := fun _ _ K _ h => by split at h; exact (legit1 K h :); simp at h
abbrev S0 : Type := (List ByteArray) → (List ByteArray) → Int → Int → Option Bool
def sg0 (g : S0) : Seg where
  path := [4, 1, 0, 1]
  prep := []
  keep := [0, 5, 6, 7]
  F := fun tvs blks {β} K => match tvs, blks with
    | [.v (.one (.d (.sl .str) x0)), .v (.one (.d (.sl .str) x1)), .v (.one (.d (.int .i64) x2)), .v (.one (.d (.int .i64) x3))], [] => (g x0 x1 x2 x3).bind fun r => K ⟨.v (.one (.d .bool r)), []⟩
    | _, _ => none
  legit := fun _ _ K _ h => by split at h; exact (legit1 K h :); simp at h
noncomputable def env (g77 : names_count.G) (s0 : S0) : FEnv := { P := prog, ct := fun m => if m = 77 then some (names_count.ct g77) else none, N := 16, body := f53.body.getD .skip, rvs := [.tmp 2], rts := [4], nin := 0, rmv := [], segs := [sg0 s0] }
def c {β : Type} (g77 : names_count.G) (s0 : S0) (a0 : List ByteArray) (ret : Bool → Option β) : Option β := ((s0 a0 a0 ((List.length a0) : Int) (0 : Int)).bind ret)
def s0c {β : Type} (g77 : names_count.G) (s0 : S0) (x0 : List ByteArray) (x1 : List ByteArray) (x2 : Int) (x3 : Int) (ret : Bool → Option β) : Option β := (bif (decide (x3 < x2)) then (bif ((decide ((0 : Int) ≤ x3)) && (decide (x3 < ((List.length x1) : Int)))) then ((g77 (elem Ty.str x1 x3) x0).bind fun r0 => (bif (decide (r0 > (1 : Int))) then (ret (false)) else ((s0 x0 x1 x2 (IntKind.wrap IntKind.i64 (x3 + (1 : Int)))).bind ret))) else none) else (ret (true)))
theorem c_bind {β : Type} {g77 : names_count.G} {s0 : S0} {a0 : List ByteArray} {ret : Bool → Option β} : c g77 s0 a0 ret = (c g77 s0 a0 some).bind ret := by
  simp only [c, bif_bind, sum_bind, oa, os, on, ofs]
theorem s0c_bind {β : Type} {g77 : names_count.G} {s0 : S0} {x0 : List ByteArray} {x1 : List ByteArray} {x2 : Int} {x3 : Int} {ret : Bool → Option β} : s0c g77 s0 x0 x1 x2 x3 ret = (s0c g77 s0 x0 x1 x2 x3 some).bind ret := by
  simp only [s0c, bif_bind, sum_bind, oa, os, on, ofs]
theorem ev {g77 : names_count.G} {s0 : S0} {a0 : List ByteArray} : evAt (env g77 s0) [] [0] [.v (.one (.d (.sl .str) a0))] [] some = c g77 s0 a0 (fun r => some ⟨.v (.one (.d .bool r)), []⟩) := by
  kernel_rfl
theorem s0_ev {g77 : names_count.G} {s0 : S0} {x0 : List ByteArray} {x1 : List ByteArray} {x2 : Int} {x3 : Int} : evAt (env g77 s0) [4, 1, 0, 1] [0, 5, 6, 7] [.v (.one (.d (.sl .str) x0)), .v (.one (.d (.sl .str) x1)), .v (.one (.d (.int .i64) x2)), .v (.one (.d (.int .i64) x3))] [] some = s0c g77 s0 x0 x1 x2 x3 (fun r => some ⟨.v (.one (.d .bool r)), []⟩) := by
  kernel_rfl
def s0 : Nat → (List ByteArray) → (List ByteArray) → Int → Int → Option Bool
  | 0, _, _, _, _ => none
  | k + 1, x0, x1, x2, x3 => s0c (names_count.f k) (s0 k) x0 x1 x2 x3 some
def f (k : Nat) (a0 : List ByteArray) : Option Bool := c (names_count.f k) (s0 k) a0 some
theorem is {g77 : names_count.G} {s0 : S0} : FnIs (env g77 s0) 53 f53 := ⟨func53, rfl, rfl, rfl, by decide⟩
theorem envok {g77 : names_count.G} {s0 : S0} (h77 : CtOK prog 77 (names_count.ct g77)) : EnvOK (env g77 s0).toEnv := by
  intro f c h
  simp only [env] at h
  split at h
  · rename_i e; subst e; cases h; exact h77
  simp at h
noncomputable abbrev E (k : Nat) : FEnv := env (names_count.f k) (s0 k)
theorem hE (k : Nat) : EnvOK (E k).toEnv := envok (names_count.ok k)
theorem segs_ok : ∀ k, ∀ s ∈ (E k).segs, SegOK (E k) f53 s
  | 0 => by
    intro s hs
    simp only [E, env, List.mem_cons, List.not_mem_nil, or_false] at hs
    rcases hs with rfl
    · intro tvs blks res h; exfalso; simp only [sg0] at h; split at h <;> simp [s0] at h
  | k + 1 => by
    intro s hs
    simp only [E, env, List.mem_cons, List.not_mem_nil, or_false] at hs
    rcases hs with rfl
    · refine seg_of_ev (E := E k) (hE k) ⟨is.rvs⟩ (segs_ok k) ?_
      intro tvs blks res h
      simp only [sg0] at h
      split at h
      · exact (s0_ev.trans s0c_bind).trans h
      · simp at h
theorem ok (k : Nat) : CtOK prog 53 (ct (f k)) := by
  refine ct_of_ev (E := E k) is (hE k) (segs_ok k) rfl ?_
  intro tvs blks res h
  simp only [ct] at h
  split at h
  · exact (ev.trans c_bind).trans h
  · simp at h
end names_Unlike
namespace schema_words
abbrev G : Type := (List D_api_Col) → Option ((List ByteArray))
def ct (g : G) : Ct where
  nin := 0
  mv := []
  F := fun tvs blks {β} K => match tvs, blks with
    | [.v (.one (.d (.sl (.pair .str (.pair (.int .i64) (.pair .bool (.pair (.pair (.int .i64) (.pair (.int .i64) (.pair (.int .u64) (.pair .str .unit)))) .unit))))) a0))], [] => (g a0).bind fun r => K ⟨.v (.one (.d (.sl .str) r)), []⟩
    | _, _ => none
  legit := fun _ _ K _ h => by split at h; exact (legit1 K h :); simp at h
abbrev S0 : Type := (List D_api_Col) → Int → Int → (List ByteArray) → Option ((List ByteArray))
def sg0 (g : S0) : Seg where
  path := [4, 1, 0, 1, 1]
  prep := []
  keep := [3, 9, 10, 11]
  F := fun tvs blks {β} K => match tvs, blks with
    | [.v (.one (.own 0)), .v (.one (.d (.sl (.pair .str (.pair (.int .i64) (.pair .bool (.pair (.pair (.int .i64) (.pair (.int .i64) (.pair (.int .u64) (.pair .str .unit)))) .unit))))) x0)), .v (.one (.d (.int .i64) x1)), .v (.one (.d (.int .i64) x2))], [some (.own .str true x3)] => (g x0 x1 x2 x3).bind fun r => K ⟨.v (.one (.d (.sl .str) r)), []⟩
    | _, _ => none
  legit := fun _ _ K _ h => by split at h; exact (legit1 K h :); simp at h
noncomputable def env  (s0 : S0) : FEnv := { P := prog, ct := fun m => none, N := 23, body := f54.body.getD .skip, rvs := [.tmp 2], rts := [95], nin := 0, rmv := [], segs := [sg0 s0] }
def c {β : Type}  (s0 : S0) (a0 : List D_api_Col) (ret : ((List ByteArray)) → Option β) : Option β := (bif ((true && (decide (((List.length a0) : Int) ≤ ((List.length a0) : Int)))) && (decide ((((List.length a0) : Int) * (16 : Int)) ≤ (35184372088832 : Int)))) then ((s0 a0 ((List.length a0) : Int) (0 : Int) (List.replicate (Int.toNat ((List.length a0) : Int)) (ByteArray.mk (List.toArray [])))).bind ret) else none)
def s0c {β : Type}  (s0 : S0) (x0 : List D_api_Col) (x1 : Int) (x2 : Int) (x3 : List ByteArray) (ret : ((List ByteArray)) → Option β) : Option β := (bif (decide (x2 < x1)) then (bif ((decide ((0 : Int) ≤ x2)) && (decide (x2 < ((List.length x0) : Int)))) then (bif ((decide ((0 : Int) ≤ x2)) && (decide (x2 < ((List.length x3) : Int)))) then ((s0 x0 x1 (IntKind.wrap IntKind.i64 (x2 + (1 : Int))) (List.set x3 (Int.toNat x2) (elem T_api_Col x0 x2).1)).bind ret) else none) else none) else (ret (x3)))
theorem c_bind {β : Type}  {s0 : S0} {a0 : List D_api_Col} {ret : ((List ByteArray)) → Option β} : c  s0 a0 ret = (c  s0 a0 some).bind ret := by
  simp only [c, bif_bind, sum_bind, oa, os, on, ofs]
theorem s0c_bind {β : Type}  {s0 : S0} {x0 : List D_api_Col} {x1 : Int} {x2 : Int} {x3 : List ByteArray} {ret : ((List ByteArray)) → Option β} : s0c  s0 x0 x1 x2 x3 ret = (s0c  s0 x0 x1 x2 x3 some).bind ret := by
  simp only [s0c, bif_bind, sum_bind, oa, os, on, ofs]
theorem ev  {s0 : S0} {a0 : List D_api_Col} : evAt (env  s0) [] [0] [.v (.one (.d (.sl T_api_Col) a0))] [] some = c  s0 a0 (fun r => some ⟨.v (.one (.d (.sl .str) r)), []⟩) := by
  kernel_rfl
theorem s0_ev  {s0 : S0} {x0 : List D_api_Col} {x1 : Int} {x2 : Int} {x3 : List ByteArray} : evAt (env  s0) [4, 1, 0, 1, 1] [3, 9, 10, 11] [.v (.one (.own 0)), .v (.one (.d (.sl T_api_Col) x0)), .v (.one (.d (.int .i64) x1)), .v (.one (.d (.int .i64) x2))] [some (.own .str true x3)] some = s0c  s0 x0 x1 x2 x3 (fun r => some ⟨.v (.one (.d (.sl .str) r)), []⟩) := by
  kernel_rfl
def s0 : Nat → (List D_api_Col) → Int → Int → (List ByteArray) → Option ((List ByteArray))
  | 0, _, _, _, _ => none
  | k + 1, x0, x1, x2, x3 => s0c  (s0 k) x0 x1 x2 x3 some
def f (k : Nat) (a0 : List D_api_Col) : Option ((List ByteArray)) := c  (s0 k) a0 some
theorem is  {s0 : S0} : FnIs (env  s0) 54 f54 := ⟨func54, rfl, rfl, rfl, by decide⟩
theorem envok  {s0 : S0}  : EnvOK (env  s0).toEnv := by
  intro f c h
  simp only [env] at h
  simp at h
noncomputable abbrev E (k : Nat) : FEnv := env  (s0 k)
theorem hE (k : Nat) : EnvOK (E k).toEnv := envok 
theorem segs_ok : ∀ k, ∀ s ∈ (E k).segs, SegOK (E k) f54 s
  | 0 => by
    intro s hs
    simp only [E, env, List.mem_cons, List.not_mem_nil, or_false] at hs
    rcases hs with rfl
    · intro tvs blks res h; exfalso; simp only [sg0] at h; split at h <;> simp [s0] at h
  | k + 1 => by
    intro s hs
    simp only [E, env, List.mem_cons, List.not_mem_nil, or_false] at hs
    rcases hs with rfl
    · refine seg_of_ev (E := E k) (hE k) ⟨is.rvs⟩ (segs_ok k) ?_
      intro tvs blks res h
      simp only [sg0] at h
      split at h
      · exact (s0_ev.trans s0c_bind).trans h
      · simp at h
theorem ok (k : Nat) : CtOK prog 54 (ct (f k)) := by
  refine ct_of_ev (E := E k) is (hE k) (segs_ok k) rfl ?_
  intro tvs blks res h
  simp only [ct] at h
  split at h
  · exact (ev.trans c_bind).trans h
  · simp at h
end schema_words
namespace schema_table_1
abbrev G : Type := ByteArray → Int → Bool → Int → Int → Int → ByteArray → Option Bool
def ct (g : G) : Ct where
  nin := 0
  mv := []
  F := fun tvs blks {β} K => match tvs, blks with
    | [.v (.agg [(.d .str a0), (.d (.int .i64) a1), (.d .bool a2), (.d (.int .i64) a3), (.d (.int .i64) a4), (.d (.int .u64) a5), (.d .str a6)])], [] => (g a0 a1 a2 a3 a4 a5 a6).bind fun r => K ⟨.v (.one (.d .bool r)), []⟩
    | _, _ => none
  legit := fun _ _ K _ h => by split at h; exact (legit1 K h :); simp at h
noncomputable def env   : FEnv := { P := prog, ct := fun m => none, N := 5, body := f56.body.getD .skip, rvs := [.tmp 2], rts := [4], nin := 0, rmv := [], segs := [] }
def c {β : Type}   (a0 : ByteArray) (a1 : Int) (a2 : Bool) (a3 : Int) (a4 : Int) (a5 : Int) (a6 : ByteArray) (ret : Bool → Option β) : Option β := (ret (a2))
theorem c_bind {β : Type}   {a0 : ByteArray} {a1 : Int} {a2 : Bool} {a3 : Int} {a4 : Int} {a5 : Int} {a6 : ByteArray} {ret : Bool → Option β} : c   a0 a1 a2 a3 a4 a5 a6 ret = (c   a0 a1 a2 a3 a4 a5 a6 some).bind ret := by
  simp only [c, bif_bind, sum_bind, oa, os, on, ofs]
theorem ev   {a0 : ByteArray} {a1 : Int} {a2 : Bool} {a3 : Int} {a4 : Int} {a5 : Int} {a6 : ByteArray} : evAt (env  ) [] [0] [.v (.agg [(.d .str a0), (.d (.int .i64) a1), (.d .bool a2), (.d (.int .i64) a3), (.d (.int .i64) a4), (.d (.int .u64) a5), (.d .str a6)])] [] some = c   a0 a1 a2 a3 a4 a5 a6 (fun r => some ⟨.v (.one (.d .bool r)), []⟩) := by
  kernel_rfl
def f (k : Nat) (a0 : ByteArray) (a1 : Int) (a2 : Bool) (a3 : Int) (a4 : Int) (a5 : Int) (a6 : ByteArray) : Option Bool := c   a0 a1 a2 a3 a4 a5 a6 some
theorem is   : FnIs (env  ) 56 f56 := ⟨func56, rfl, rfl, rfl, by decide⟩
theorem envok    : EnvOK (env  ).toEnv := by
  intro f c h
  simp only [env] at h
  simp at h
noncomputable abbrev E (k : Nat) : FEnv := env  
theorem hE (k : Nat) : EnvOK (E k).toEnv := envok 
theorem ok (k : Nat) : CtOK prog 56 (ct (f k)) := by
  refine ct_of_ev (E := E k) is (hE k) (fun s hs => by simp [E, env] at hs) rfl ?_
  intro tvs blks res h
  simp only [ct] at h
  split at h
  · exact (ev.trans c_bind).trans h
  · simp at h
end schema_table_1
namespace api_Col_78
abbrev G : Type := (List D_api_Col) → Option Int
def ct (g : G) : Ct where
  nin := 0
  mv := []
  F := fun tvs blks {β} K => match tvs, blks with
    | [.v (.one (.d (.sl (.pair .str (.pair (.int .i64) (.pair .bool (.pair (.pair (.int .i64) (.pair (.int .i64) (.pair (.int .u64) (.pair .str .unit)))) .unit))))) a0)), .v (.one (.fn 56 []))], [] => (g a0).bind fun r => K ⟨.v (.one (.d (.int .i64) r)), []⟩
    | _, _ => none
  legit := fun _ _ K _ h => by split at h; exact (legit1 K h :); simp at h
abbrev S0 : Type := (List D_api_Col) → Int → Int → Option Int
def sg0 (g : S0) : Seg where
  path := [4, 1, 0, 1]
  prep := []
  keep := [0, 1, 7, 8]
  F := fun tvs blks {β} K => match tvs, blks with
    | [.v (.one (.d (.sl (.pair .str (.pair (.int .i64) (.pair .bool (.pair (.pair (.int .i64) (.pair (.int .i64) (.pair (.int .u64) (.pair .str .unit)))) .unit))))) x0)), .v (.one (.fn 56 [])), .v (.one (.d (.int .i64) x1)), .v (.one (.d (.int .i64) x2))], [] => (g x0 x1 x2).bind fun r => K ⟨.v (.one (.d (.int .i64) r)), []⟩
    | _, _ => none
  legit := fun _ _ K _ h => by split at h; exact (legit1 K h :); simp at h
noncomputable def env (g56 : schema_table_1.G) (s0 : S0) : FEnv := { P := prog, ct := fun m => if m = 56 then some (schema_table_1.ct g56) else none, N := 19, body := f78.body.getD .skip, rvs := [.tmp 4], rts := [3], nin := 0, rmv := [], segs := [sg0 s0] }
def c {β : Type} (g56 : schema_table_1.G) (s0 : S0) (a0 : List D_api_Col) (ret : Int → Option β) : Option β := ((s0 a0 ((List.length a0) : Int) (0 : Int)).bind ret)
def s0c {β : Type} (g56 : schema_table_1.G) (s0 : S0) (x0 : List D_api_Col) (x1 : Int) (x2 : Int) (ret : Int → Option β) : Option β := (bif (decide (x2 < x1)) then (bif ((decide ((0 : Int) ≤ x2)) && (decide (x2 < ((List.length x0) : Int)))) then ((g56 (elem T_api_Col x0 x2).1 (elem T_api_Col x0 x2).2.1 (elem T_api_Col x0 x2).2.2.1 (elem T_api_Col x0 x2).2.2.2.1.1 (elem T_api_Col x0 x2).2.2.2.1.2.1 (elem T_api_Col x0 x2).2.2.2.1.2.2.1 (elem T_api_Col x0 x2).2.2.2.1.2.2.2.1).bind fun r0 => (bif r0 then (ret (x2)) else ((s0 x0 x1 (IntKind.wrap IntKind.i64 (x2 + (1 : Int)))).bind ret))) else none) else (ret ((-1 : Int))))
theorem c_bind {β : Type} {g56 : schema_table_1.G} {s0 : S0} {a0 : List D_api_Col} {ret : Int → Option β} : c g56 s0 a0 ret = (c g56 s0 a0 some).bind ret := by
  simp only [c, bif_bind, sum_bind, oa, os, on, ofs]
theorem s0c_bind {β : Type} {g56 : schema_table_1.G} {s0 : S0} {x0 : List D_api_Col} {x1 : Int} {x2 : Int} {ret : Int → Option β} : s0c g56 s0 x0 x1 x2 ret = (s0c g56 s0 x0 x1 x2 some).bind ret := by
  simp only [s0c, bif_bind, sum_bind, oa, os, on, ofs]
theorem ev {g56 : schema_table_1.G} {s0 : S0} {a0 : List D_api_Col} : evAt (env g56 s0) [] [0, 1] [.v (.one (.d (.sl T_api_Col) a0)), .v (.one (.fn 56 []))] [] some = c g56 s0 a0 (fun r => some ⟨.v (.one (.d (.int .i64) r)), []⟩) := by
  kernel_rfl
theorem s0_ev {g56 : schema_table_1.G} {s0 : S0} {x0 : List D_api_Col} {x1 : Int} {x2 : Int} : evAt (env g56 s0) [4, 1, 0, 1] [0, 1, 7, 8] [.v (.one (.d (.sl T_api_Col) x0)), .v (.one (.fn 56 [])), .v (.one (.d (.int .i64) x1)), .v (.one (.d (.int .i64) x2))] [] some = s0c g56 s0 x0 x1 x2 (fun r => some ⟨.v (.one (.d (.int .i64) r)), []⟩) := by
  kernel_rfl
def s0 : Nat → (List D_api_Col) → Int → Int → Option Int
  | 0, _, _, _ => none
  | k + 1, x0, x1, x2 => s0c (schema_table_1.f k) (s0 k) x0 x1 x2 some
def f (k : Nat) (a0 : List D_api_Col) : Option Int := c (schema_table_1.f k) (s0 k) a0 some
theorem is {g56 : schema_table_1.G} {s0 : S0} : FnIs (env g56 s0) 78 f78 := ⟨func78, rfl, rfl, rfl, by decide⟩
theorem envok {g56 : schema_table_1.G} {s0 : S0} (h56 : CtOK prog 56 (schema_table_1.ct g56)) : EnvOK (env g56 s0).toEnv := by
  intro f c h
  simp only [env] at h
  split at h
  · rename_i e; subst e; cases h; exact h56
  simp at h
noncomputable abbrev E (k : Nat) : FEnv := env (schema_table_1.f k) (s0 k)
theorem hE (k : Nat) : EnvOK (E k).toEnv := envok (schema_table_1.ok k)
theorem segs_ok : ∀ k, ∀ s ∈ (E k).segs, SegOK (E k) f78 s
  | 0 => by
    intro s hs
    simp only [E, env, List.mem_cons, List.not_mem_nil, or_false] at hs
    rcases hs with rfl
    · intro tvs blks res h; exfalso; simp only [sg0] at h; split at h <;> simp [s0] at h
  | k + 1 => by
    intro s hs
    simp only [E, env, List.mem_cons, List.not_mem_nil, or_false] at hs
    rcases hs with rfl
    · refine seg_of_ev (E := E k) (hE k) ⟨is.rvs⟩ (segs_ok k) ?_
      intro tvs blks res h
      simp only [sg0] at h
      split at h
      · exact (s0_ev.trans s0c_bind).trans h
      · simp at h
theorem ok (k : Nat) : CtOK prog 78 (ct (f k)) := by
  refine ct_of_ev (E := E k) is (hE k) (segs_ok k) rfl ?_
  intro tvs blks res h
  simp only [ct] at h
  split at h
  · exact (ev.trans c_bind).trans h
  · simp at h
end api_Col_78
namespace api_Col_55
abbrev G : Type := (List D_api_Col) → Option Bool
def ct (g : G) : Ct where
  nin := 0
  mv := []
  F := fun tvs blks {β} K => match tvs, blks with
    | [.v (.one (.d (.sl (.pair .str (.pair (.int .i64) (.pair .bool (.pair (.pair (.int .i64) (.pair (.int .i64) (.pair (.int .u64) (.pair .str .unit)))) .unit))))) a0)), .v (.one (.fn 56 []))], [] => (g a0).bind fun r => K ⟨.v (.one (.d .bool r)), []⟩
    | _, _ => none
  legit := fun _ _ K _ h => by split at h; exact (legit1 K h :); simp at h
noncomputable def env (g56 : schema_table_1.G) (g78 : api_Col_78.G)  : FEnv := { P := prog, ct := fun m => if m = 56 then some (schema_table_1.ct g56) else if m = 78 then some (api_Col_78.ct g78) else none, N := 9, body := f55.body.getD .skip, rvs := [.tmp 4], rts := [4], nin := 0, rmv := [], segs := [] }
def c {β : Type} (g56 : schema_table_1.G) (g78 : api_Col_78.G)  (a0 : List D_api_Col) (ret : Bool → Option β) : Option β := ((g78 a0).bind fun r0 => (ret ((decide (r0 ≥ (0 : Int))))))
theorem c_bind {β : Type} {g56 : schema_table_1.G} {g78 : api_Col_78.G}  {a0 : List D_api_Col} {ret : Bool → Option β} : c g56 g78  a0 ret = (c g56 g78  a0 some).bind ret := by
  simp only [c, bif_bind, sum_bind, oa, os, on, ofs]
theorem ev {g56 : schema_table_1.G} {g78 : api_Col_78.G}  {a0 : List D_api_Col} : evAt (env g56 g78 ) [] [0, 1] [.v (.one (.d (.sl T_api_Col) a0)), .v (.one (.fn 56 []))] [] some = c g56 g78  a0 (fun r => some ⟨.v (.one (.d .bool r)), []⟩) := by
  kernel_rfl
def f (k : Nat) (a0 : List D_api_Col) : Option Bool := c (schema_table_1.f k) (api_Col_78.f k)  a0 some
theorem is {g56 : schema_table_1.G} {g78 : api_Col_78.G}  : FnIs (env g56 g78 ) 55 f55 := ⟨func55, rfl, rfl, rfl, by decide⟩
theorem envok {g56 : schema_table_1.G} {g78 : api_Col_78.G}  (h56 : CtOK prog 56 (schema_table_1.ct g56)) (h78 : CtOK prog 78 (api_Col_78.ct g78)) : EnvOK (env g56 g78 ).toEnv := by
  intro f c h
  simp only [env] at h
  split at h
  · rename_i e; subst e; cases h; exact h56
  split at h
  · rename_i e; subst e; cases h; exact h78
  simp at h
noncomputable abbrev E (k : Nat) : FEnv := env (schema_table_1.f k) (api_Col_78.f k) 
theorem hE (k : Nat) : EnvOK (E k).toEnv := envok (schema_table_1.ok k) (api_Col_78.ok k)
theorem ok (k : Nat) : CtOK prog 55 (ct (f k)) := by
  refine ct_of_ev (E := E k) is (hE k) (fun s hs => by simp [E, env] at hs) rfl ?_
  intro tvs blks res h
  simp only [ct] at h
  split at h
  · exact (ev.trans c_bind).trans h
  · simp at h
end api_Col_55
end Go.Proofs.YtdbbkmmillnaiaaGreatDoor.Aev
