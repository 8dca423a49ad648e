/- By a program of this session (AEV): functions of the program as plain functions, and that the machine does what they say. -/
import Derived.Test.YtdbbkmmillnaiaaGreatDoorTys
import Derived.Test.YtdbbkmmillnaiaaGreatDoorProg
import Derived.Laws.Externs
import Derived.Lib.Bytealg
import Derived.Test.YtdbbkmmillnaiaaGreatDoorF5
import Derived.Test.YtdbbkmmillnaiaaGreatDoorF6
import Derived.Test.YtdbbkmmillnaiaaGreatDoorF7
namespace Go.Proofs.YtdbbkmmillnaiaaGreatDoor.Aev
set_option linter.unusedVariables false
set_option linter.unusedSimpArgs false
set_option maxRecDepth 100000
set_option maxHeartbeats 4000000
open Go Go.Proofs.Tryz
namespace transomlaw12_row
abbrev G : Type := Int → Option ((List D_api_Value))
def ct (g : G) : Ct where
  nin := 0
  mv := []
  F := fun tvs blks {β} K => match tvs, blks with
    | [.v (.one (.d (.int .i64) a0))], [] => (g a0).bind fun r => K ⟨.v (.one (.d (.sl T_api_Value) r)), []⟩
    | _, _ => none
  legit := fun _ _ K _ h => by split at h; exact (legit1 K h :); simp at h
noncomputable def env   : FEnv := { P := prog, ct := fun m => none, N := 7, body := f18.body.getD .skip, rvs := [.tmp 2], rts := [28], nin := 0, rmv := [], segs := [] }
def c {β : Type}   (a0 : Int) (ret : ((List D_api_Value)) → Option β) : Option β := (ret ([((2 : Int), (a0, ((0 : Int), ((ByteArray.mk (List.toArray [])), ())))), ((0 : Int), ((0 : Int), ((0 : Int), ((ByteArray.mk (List.toArray [])), ()))))]))
theorem c_bind {β : Type}   {a0 : Int} {ret : ((List D_api_Value)) → Option β} : c   a0 ret = (c   a0 some).bind ret := by
  simp only [c, bif_bind, sum_bind, oa, os, on, ofs]
theorem ev   {a0 : Int} : evAt (env  ) [] [0] [.v (.one (.d (.int .i64) a0))] [] some = c   a0 (fun r => some ⟨.v (.one (.d (.sl T_api_Value) r)), []⟩) := by
  kernel_rfl
def f (k : Nat) (a0 : Int) : Option ((List D_api_Value)) := c   a0 some
theorem is   : FnIs (env  ) 18 f18 := ⟨func18, rfl, rfl, rfl, by decide⟩
theorem envok    : EnvOK (env  ).toEnv := by
  intro f c h
  simp only [env] at h
  simp at h
noncomputable abbrev E (k : Nat) : FEnv := env  
theorem hE (k : Nat) : EnvOK (E k).toEnv := envok 
theorem ok (k : Nat) : CtOK prog 18 (ct (f k)) := by
  refine ct_of_ev (E := E k) is (hE k) (fun s hs => by simp [E, env] at hs) rfl ?_
  intro tvs blks res h
  simp only [ct] at h
  split at h
  · exact (ev.trans c_bind).trans h
  · simp at h
end transomlaw12_row
namespace sheet_Merge
abbrev G : Type := ByteArray → Int → (List D_api_Col) → (List D_api_Line) → ByteArray → Int → (List D_api_Col) → (List D_api_Line) → Option ((List D_api_Line) × Int)
def ct (g : G) : Ct where
  nin := 0
  mv := []
  F := fun tvs blks {β} K => match tvs, blks with
    | [.v (.agg [(.d .str a0), (.d (.int .i64) a1), (.d (.sl (.pair .str (.pair (.int .i64) (.pair .bool (.pair (.pair (.int .i64) (.pair (.int .i64) (.pair (.int .u64) (.pair .str .unit)))) .unit))))) a2), (.d (.sl (.pair .str (.pair (.sl (.pair (.int .i64) (.pair (.int .i64) (.pair (.int .u64) (.pair .str .unit))))) .unit))) a3)]), .v (.agg [(.d .str a4), (.d (.int .i64) a5), (.d (.sl (.pair .str (.pair (.int .i64) (.pair .bool (.pair (.pair (.int .i64) (.pair (.int .i64) (.pair (.int .u64) (.pair .str .unit)))) .unit))))) a6), (.d (.sl (.pair .str (.pair (.sl (.pair (.int .i64) (.pair (.int .i64) (.pair (.int .u64) (.pair .str .unit))))) .unit))) a7)])], [] => (g a0 a1 a2 a3 a4 a5 a6 a7).bind fun r => K ⟨.tup [(.one (.d (.sl T_api_Line) r.1)), (.one (.d (.int .i64) r.2))], []⟩
    | _, _ => none
  legit := fun _ _ K _ h => by split at h; exact (legit1 K h :); simp at h
abbrev S0 : Type := (List D_api_Line) → (List D_api_Line) → Int → Int → (List D_api_Line) → Option ((List D_api_Line) × Int)
def sg0 (g : S0) : Seg where
  path := [4, 1, 0, 1, 1, 1]
  prep := [.dat 6 (.sl T_api_Line), .own 7 T_api_Line]
  keep := [6, 7, 22, 23, 24]
  F := fun tvs blks {β} K => match tvs, blks with
    | [.v (.one (.d (.sl (.pair .str (.pair (.sl (.pair (.int .i64) (.pair (.int .i64) (.pair (.int .u64) (.pair .str .unit))))) .unit))) x0)), .v (.one (.own 0)), .v (.one (.d (.sl (.pair .str (.pair (.sl (.pair (.int .i64) (.pair (.int .i64) (.pair (.int .u64) (.pair .str .unit))))) .unit))) x1)), .v (.one (.d (.int .i64) x2)), .v (.one (.d (.int .i64) x3))], [some (.own (.pair .str (.pair (.sl (.pair (.int .i64) (.pair (.int .i64) (.pair (.int .u64) (.pair .str .unit))))) .unit)) false x4)] => (g x0 x1 x2 x3 x4).bind fun r => K ⟨.tup [(.one (.d (.sl T_api_Line) r.1)), (.one (.d (.int .i64) r.2))], []⟩
    | _, _ => none
  legit := fun _ _ K _ h => by split at h; exact (legit1 K h :); simp at h
noncomputable def env (g23 : sheet_at.G) (s0 : S0) : FEnv := { P := prog, ct := fun m => if m = 23 then some (sheet_at.ct g23) else none, N := 51, body := f19.body.getD .skip, rvs := [.tmp 4, .tmp 5], rts := [25, 32], nin := 0, rmv := [], segs := [sg0 s0] }
def c {β : Type} (g23 : sheet_at.G) (s0 : S0) (a0 : ByteArray) (a1 : Int) (a2 : List D_api_Col) (a3 : List D_api_Line) (a4 : ByteArray) (a5 : Int) (a6 : List D_api_Col) (a7 : List D_api_Line) (ret : ((List D_api_Line) × Int) → Option β) : Option β := (bif (true && (decide (((List.length a3) : Int) ≤ ((List.length a3) : Int)))) then (bif (decide (((List.length a3) : Int) = ((List.length a3) : Int))) then ((s0 (List.take ((Int.toNat ((List.length a3) : Int)) - (0 : Nat)) (List.drop (0 : Nat) a3)) a7 ((List.length a7) : Int) (0 : Int) []).bind ret) else none) else none)
def s0c {β : Type} (g23 : sheet_at.G) (s0 : S0) (x0 : List D_api_Line) (x1 : List D_api_Line) (x2 : Int) (x3 : Int) (x4 : List D_api_Line) (ret : ((List D_api_Line) × Int) → Option β) : Option β := (bif (decide (x3 < x2)) then (bif ((decide ((0 : Int) ≤ x3)) && (decide (x3 < ((List.length x1) : Int)))) then ((g23 x0 (elem T_api_Line x1 x3).1).bind fun r0 => (bif r0.2 then (ret ([], (15 : Int))) else (bif ((true && (decide ((0 : Int) ≤ r0.1))) && (decide (r0.1 ≤ ((List.length x0) : Int)))) then (bif (decide ((((List.length x4) + (List.length (List.take ((Int.toNat r0.1) - (0 : Nat)) (List.drop (0 : Nat) x0)))) * (40 : Nat)) ≤ (35184372088832 : Nat))) then (bif (decide ((((List.length (x4 ++ (List.take ((Int.toNat r0.1) - (0 : Nat)) (List.drop (0 : Nat) x0)))) + (1 : Nat)) * (40 : Nat)) ≤ (35184372088832 : Nat))) then (bif (((decide ((0 : Int) ≤ r0.1)) && (decide (r0.1 ≤ ((List.length x0) : Int)))) && (decide (((List.length x0) : Int) ≤ ((List.length x0) : Int)))) then ((s0 (List.take ((Int.toNat ((List.length x0) : Int)) - (Int.toNat r0.1)) (List.drop (Int.toNat r0.1) x0)) x1 x2 (IntKind.wrap IntKind.i64 (x3 + (1 : Int))) ((x4 ++ (List.take ((Int.toNat r0.1) - (0 : Nat)) (List.drop (0 : Nat) x0))) ++ [((elem T_api_Line x1 x3).1, ((elem T_api_Line x1 x3).2.1, ()))])).bind ret) else none) else none) else none) else none))) else none) else (bif (decide ((((List.length x4) + (List.length x0)) * (40 : Nat)) ≤ (35184372088832 : Nat))) then (ret ((x4 ++ x0), (0 : Int))) else none))
theorem c_bind {β : Type} {g23 : sheet_at.G} {s0 : S0} {a0 : ByteArray} {a1 : Int} {a2 : List D_api_Col} {a3 : List D_api_Line} {a4 : ByteArray} {a5 : Int} {a6 : List D_api_Col} {a7 : List D_api_Line} {ret : ((List D_api_Line) × Int) → Option β} : c g23 s0 a0 a1 a2 a3 a4 a5 a6 a7 ret = (c g23 s0 a0 a1 a2 a3 a4 a5 a6 a7 some).bind ret := by
  simp only [c, bif_bind, sum_bind, oa, os, on, ofs]
theorem s0c_bind {β : Type} {g23 : sheet_at.G} {s0 : S0} {x0 : List D_api_Line} {x1 : List D_api_Line} {x2 : Int} {x3 : Int} {x4 : List D_api_Line} {ret : ((List D_api_Line) × Int) → Option β} : s0c g23 s0 x0 x1 x2 x3 x4 ret = (s0c g23 s0 x0 x1 x2 x3 x4 some).bind ret := by
  simp only [s0c, bif_bind, sum_bind, oa, os, on, ofs]
theorem ev {g23 : sheet_at.G} {s0 : S0} {a0 : ByteArray} {a1 : Int} {a2 : List D_api_Col} {a3 : List D_api_Line} {a4 : ByteArray} {a5 : Int} {a6 : List D_api_Col} {a7 : List D_api_Line} : evAt (env g23 s0) [] [0, 1] [.v (.agg [(.d .str a0), (.d (.int .i64) a1), (.d (.sl T_api_Col) a2), (.d (.sl T_api_Line) a3)]), .v (.agg [(.d .str a4), (.d (.int .i64) a5), (.d (.sl T_api_Col) a6), (.d (.sl T_api_Line) a7)])] [] some = c g23 s0 a0 a1 a2 a3 a4 a5 a6 a7 (fun r => some ⟨.tup [(.one (.d (.sl T_api_Line) r.1)), (.one (.d (.int .i64) r.2))], []⟩) := by
  kernel_rfl
theorem s0_ev {g23 : sheet_at.G} {s0 : S0} {x0 : List D_api_Line} {x1 : List D_api_Line} {x2 : Int} {x3 : Int} {x4 : List D_api_Line} : evAt (env g23 s0) [4, 1, 0, 1, 1, 1] [6, 7, 22, 23, 24] [.v (.one (.d (.sl T_api_Line) x0)), .v (.one (.own 0)), .v (.one (.d (.sl T_api_Line) x1)), .v (.one (.d (.int .i64) x2)), .v (.one (.d (.int .i64) x3))] [some (.own T_api_Line false x4)] some = s0c g23 s0 x0 x1 x2 x3 x4 (fun r => some ⟨.tup [(.one (.d (.sl T_api_Line) r.1)), (.one (.d (.int .i64) r.2))], []⟩) := by
  kernel_rfl
def s0 : Nat → (List D_api_Line) → (List D_api_Line) → Int → Int → (List D_api_Line) → Option ((List D_api_Line) × Int)
  | 0, _, _, _, _, _ => none
  | k + 1, x0, x1, x2, x3, x4 => s0c (sheet_at.f k) (s0 k) x0 x1 x2 x3 x4 some
def f (k : Nat) (a0 : ByteArray) (a1 : Int) (a2 : List D_api_Col) (a3 : List D_api_Line) (a4 : ByteArray) (a5 : Int) (a6 : List D_api_Col) (a7 : List D_api_Line) : Option ((List D_api_Line) × Int) := c (sheet_at.f k) (s0 k) a0 a1 a2 a3 a4 a5 a6 a7 some
theorem is {g23 : sheet_at.G} {s0 : S0} : FnIs (env g23 s0) 19 f19 := ⟨func19, rfl, rfl, rfl, by decide⟩
theorem envok {g23 : sheet_at.G} {s0 : S0} (h23 : CtOK prog 23 (sheet_at.ct g23)) : EnvOK (env g23 s0).toEnv := by
  intro f c h
  simp only [env] at h
  split at h
  · rename_i e; subst e; cases h; exact h23
  simp at h
noncomputable abbrev E (k : Nat) : FEnv := env (sheet_at.f k) (s0 k)
theorem hE (k : Nat) : EnvOK (E k).toEnv := envok (sheet_at.ok k)
theorem segs_ok : ∀ k, ∀ s ∈ (E k).segs, SegOK (E k) f19 s
  | 0 => by
    intro s hs
    simp only [E, env, List.mem_cons, List.not_mem_nil, or_false] at hs
    rcases hs with rfl
    · intro tvs blks res h; exfalso; simp only [sg0] at h; split at h <;> simp [s0] at h
  | k + 1 => by
    intro s hs
    simp only [E, env, List.mem_cons, List.not_mem_nil, or_false] at hs
    rcases hs with rfl
    · refine seg_of_ev (E := E k) (hE k) ⟨is.rvs⟩ (segs_ok k) ?_
      intro tvs blks res h
      simp only [sg0] at h
      split at h
      · exact (s0_ev.trans s0c_bind).trans h
      · simp at h
theorem ok (k : Nat) : CtOK prog 19 (ct (f k)) := by
  refine ct_of_ev (E := E k) is (hE k) (segs_ok k) rfl ?_
  intro tvs blks res h
  simp only [ct] at h
  split at h
  · exact (ev.trans c_bind).trans h
  · simp at h
end sheet_Merge
namespace sheet_Range
abbrev G : Type := ByteArray → Int → (List D_api_Col) → (List D_api_Line) → ByteArray → ByteArray → Int → Option ((List (List D_api_Value)))
def ct (g : G) : Ct where
  nin := 0
  mv := []
  F := fun tvs blks {β} K => match tvs, blks with
    | [.v (.agg [(.d .str a0), (.d (.int .i64) a1), (.d (.sl (.pair .str (.pair (.int .i64) (.pair .bool (.pair (.pair (.int .i64) (.pair (.int .i64) (.pair (.int .u64) (.pair .str .unit)))) .unit))))) a2), (.d (.sl (.pair .str (.pair (.sl (.pair (.int .i64) (.pair (.int .i64) (.pair (.int .u64) (.pair .str .unit))))) .unit))) a3)]), .v (.one (.d .str a4)), .v (.one (.d .str a5)), .v (.one (.d (.int .i64) a6))], [] => (g a0 a1 a2 a3 a4 a5 a6).bind fun r => K ⟨.v (.one (.d (.sl (.sl T_api_Value)) r)), []⟩
    | _, _ => none
  legit := fun _ _ K _ h => by split at h; exact (legit1 K h :); simp at h
abbrev S0 : Type := ByteArray → Int → (List D_api_Line) → Int → Int → (List (List D_api_Value)) → Option ((List (List D_api_Value)))
abbrev S1 : Type := ByteArray → Int → (List D_api_Line) → Int → Int → Bool → (List (List D_api_Value)) → ByteArray → (List D_api_Value) → Option ((List (List D_api_Value)))
abbrev S2 : Type := ByteArray → Int → (List D_api_Line) → Int → Int → (List (List D_api_Value)) → ByteArray → (List D_api_Value) → Option ((List (List D_api_Value)))
abbrev S3 : Type := ByteArray → Int → (List D_api_Line) → Int → Int → (List (List D_api_Value)) → Option ((List (List D_api_Value)))
def sg0 (g : S0) : Seg where
  path := [4, 1, 0, 1, 1, 1]
  prep := [.own 11 (.sl T_api_Value)]
  keep := [2, 3, 11, 24, 25, 26]
  F := fun tvs blks {β} K => match tvs, blks with
    | [.v (.one (.d .str x0)), .v (.one (.d (.int .i64) x1)), .v (.one (.own 0)), .v (.one (.d (.sl (.pair .str (.pair (.sl (.pair (.int .i64) (.pair (.int .i64) (.pair (.int .u64) (.pair .str .unit))))) .unit))) x2)), .v (.one (.d (.int .i64) x3)), .v (.one (.d (.int .i64) x4))], [some (.own (.sl (.pair (.int .i64) (.pair (.int .i64) (.pair (.int .u64) (.pair .str .unit))))) false x5)] => (g x0 x1 x2 x3 x4 x5).bind fun r => K ⟨.v (.one (.d (.sl (.sl T_api_Value)) r)), []⟩
    | _, _ => none
  legit := fun _ _ K _ h => by split at h; exact (legit1 K h :); simp at h
def sg1 (g : S1) : Seg where
  path := [1, 0, 1, 4, 0, 1, 1, 5, 4, 1, 0, 1, 1, 1]
  prep := []
  keep := [2, 3, 11, 13, 24, 25, 26, 43]
  F := fun tvs blks {β} K => match tvs, blks with
    | [.v (.one (.d .str x0)), .v (.one (.d (.int .i64) x1)), .v (.one (.own 0)), .v (.one (.ptr 1 0)), .v (.one (.d (.sl (.pair .str (.pair (.sl (.pair (.int .i64) (.pair (.int .i64) (.pair (.int .u64) (.pair .str .unit))))) .unit))) x2)), .v (.one (.d (.int .i64) x3)), .v (.one (.d (.int .i64) x4)), .v (.one (.d .bool x5))], [some (.own (.sl (.pair (.int .i64) (.pair (.int .i64) (.pair (.int .u64) (.pair .str .unit))))) false x6), some (.box [(.d .str x7), (.d (.sl (.pair (.int .i64) (.pair (.int .i64) (.pair (.int .u64) (.pair .str .unit))))) x8)])] => (g x0 x1 x2 x3 x4 x5 x6 x7 x8).bind fun r => K ⟨.v (.one (.d (.sl (.sl T_api_Value)) r)), []⟩
    | _, _ => none
  legit := fun _ _ K _ h => by split at h; exact (legit1 K h :); simp at h
def sg2 (g : S2) : Seg where
  path := [1, 1, 4, 0, 1, 1, 5, 4, 1, 0, 1, 1, 1]
  prep := []
  keep := [2, 3, 11, 13, 24, 25, 26]
  F := fun tvs blks {β} K => match tvs, blks with
    | [.v (.one (.d .str x0)), .v (.one (.d (.int .i64) x1)), .v (.one (.own 0)), .v (.one (.ptr 1 0)), .v (.one (.d (.sl (.pair .str (.pair (.sl (.pair (.int .i64) (.pair (.int .i64) (.pair (.int .u64) (.pair .str .unit))))) .unit))) x2)), .v (.one (.d (.int .i64) x3)), .v (.one (.d (.int .i64) x4))], [some (.own (.sl (.pair (.int .i64) (.pair (.int .i64) (.pair (.int .u64) (.pair .str .unit))))) false x5), some (.box [(.d .str x6), (.d (.sl (.pair (.int .i64) (.pair (.int .i64) (.pair (.int .u64) (.pair .str .unit))))) x7)])] => (g x0 x1 x2 x3 x4 x5 x6 x7).bind fun r => K ⟨.v (.one (.d (.sl (.sl T_api_Value)) r)), []⟩
    | _, _ => none
  legit := fun _ _ K _ h => by split at h; exact (legit1 K h :); simp at h
def sg3 (g : S3) : Seg where
  path := [1, 1, 1, 5, 4, 1, 0, 1, 1, 1]
  prep := []
  keep := [2, 3, 11, 24, 25, 26]
  F := fun tvs blks {β} K => match tvs, blks with
    | [.v (.one (.d .str x0)), .v (.one (.d (.int .i64) x1)), .v (.one (.own 0)), .v (.one (.d (.sl (.pair .str (.pair (.sl (.pair (.int .i64) (.pair (.int .i64) (.pair (.int .u64) (.pair .str .unit))))) .unit))) x2)), .v (.one (.d (.int .i64) x3)), .v (.one (.d (.int .i64) x4))], [some (.own (.sl (.pair (.int .i64) (.pair (.int .i64) (.pair (.int .u64) (.pair .str .unit))))) false x5)] => (g x0 x1 x2 x3 x4 x5).bind fun r => K ⟨.v (.one (.d (.sl (.sl T_api_Value)) r)), []⟩
    | _, _ => none
  legit := fun _ _ K _ h => by split at h; exact (legit1 K h :); simp at h
noncomputable def env (g23 : sheet_at.G) (s0 : S0) (s1 : S1) (s2 : S2) (s3 : S3) : FEnv := { P := prog, ct := fun m => if m = 23 then some (sheet_at.ct g23) else none, N := 58, body := f20.body.getD .skip, rvs := [.tmp 8], rts := [54], nin := 0, rmv := [], segs := [sg0 s0, sg1 s1, sg2 s2, sg3 s3] }
def c {β : Type} (g23 : sheet_at.G) (s0 : S0) (s1 : S1) (s2 : S2) (s3 : S3) (a0 : ByteArray) (a1 : Int) (a2 : List D_api_Col) (a3 : List D_api_Line) (a4 : ByteArray) (a5 : ByteArray) (a6 : Int) (ret : ((List (List D_api_Value))) → Option β) : Option β := ((g23 a3 a4).bind fun r0 => (bif (((decide ((0 : Int) ≤ r0.1)) && (decide (r0.1 ≤ ((List.length a3) : Int)))) && (decide (((List.length a3) : Int) ≤ ((List.length a3) : Int)))) then ((s0 a5 a6 (List.take ((Int.toNat ((List.length a3) : Int)) - (Int.toNat r0.1)) (List.drop (Int.toNat r0.1) a3)) ((List.length (List.take ((Int.toNat ((List.length a3) : Int)) - (Int.toNat r0.1)) (List.drop (Int.toNat r0.1) a3))) : Int) (0 : Int) []).bind ret) else none))
def s0c {β : Type} (g23 : sheet_at.G) (s0 : S0) (s1 : S1) (s2 : S2) (s3 : S3) (x0 : ByteArray) (x1 : Int) (x2 : List D_api_Line) (x3 : Int) (x4 : Int) (x5 : List (List D_api_Value)) (ret : ((List (List D_api_Value))) → Option β) : Option β := (bif (decide (x4 < x3)) then (bif ((decide ((0 : Int) ≤ x4)) && (decide (x4 < ((List.length x2) : Int)))) then (bif (decide (((List.length x5) : Int) ≥ x1)) then ((s1 x0 x1 x2 x3 x4 true x5 (elem T_api_Line x2 x4).1 (elem T_api_Line x2 x4).2.1).bind ret) else (bif (!((ByteArray.toList x0) == (ByteArray.toList (ByteArray.mk (List.toArray []))))) then ((s1 x0 x1 x2 x3 x4 (!(Op.bytesLess (ByteArray.toList (elem T_api_Line x2 x4).1) (ByteArray.toList x0))) x5 (elem T_api_Line x2 x4).1 (elem T_api_Line x2 x4).2.1).bind ret) else ((s1 x0 x1 x2 x3 x4 false x5 (elem T_api_Line x2 x4).1 (elem T_api_Line x2 x4).2.1).bind ret))) else none) else (ret (x5)))
def s1c {β : Type} (g23 : sheet_at.G) (s0 : S0) (s1 : S1) (s2 : S2) (s3 : S3) (x0 : ByteArray) (x1 : Int) (x2 : List D_api_Line) (x3 : Int) (x4 : Int) (x5 : Bool) (x6 : List (List D_api_Value)) (x7 : ByteArray) (x8 : List D_api_Value) (ret : ((List (List D_api_Value))) → Option β) : Option β := (bif x5 then (ret (x6)) else ((s2 x0 x1 x2 x3 x4 x6 x7 x8).bind ret))
def s2c {β : Type} (g23 : sheet_at.G) (s0 : S0) (s1 : S1) (s2 : S2) (s3 : S3) (x0 : ByteArray) (x1 : Int) (x2 : List D_api_Line) (x3 : Int) (x4 : Int) (x5 : List (List D_api_Value)) (x6 : ByteArray) (x7 : List D_api_Value) (ret : ((List (List D_api_Value))) → Option β) : Option β := (bif (true && (decide (((List.length x7) : Int) ≤ ((List.length x7) : Int)))) then (bif (decide (((List.length x7) : Int) = ((List.length x7) : Int))) then (bif (decide ((((List.length x5) + (1 : Nat)) * (24 : Nat)) ≤ (35184372088832 : Nat))) then ((s3 x0 x1 x2 x3 x4 (x5 ++ [(List.take ((Int.toNat ((List.length x7) : Int)) - (0 : Nat)) (List.drop (0 : Nat) x7))])).bind ret) else none) else none) else none)
def s3c {β : Type} (g23 : sheet_at.G) (s0 : S0) (s1 : S1) (s2 : S2) (s3 : S3) (x0 : ByteArray) (x1 : Int) (x2 : List D_api_Line) (x3 : Int) (x4 : Int) (x5 : List (List D_api_Value)) (ret : ((List (List D_api_Value))) → Option β) : Option β := ((s0 x0 x1 x2 x3 (IntKind.wrap IntKind.i64 (x4 + (1 : Int))) x5).bind ret)
theorem c_bind {β : Type} {g23 : sheet_at.G} {s0 : S0} {s1 : S1} {s2 : S2} {s3 : S3} {a0 : ByteArray} {a1 : Int} {a2 : List D_api_Col} {a3 : List D_api_Line} {a4 : ByteArray} {a5 : ByteArray} {a6 : Int} {ret : ((List (List D_api_Value))) → Option β} : c g23 s0 s1 s2 s3 a0 a1 a2 a3 a4 a5 a6 ret = (c g23 s0 s1 s2 s3 a0 a1 a2 a3 a4 a5 a6 some).bind ret := by
  simp only [c, bif_bind, sum_bind, oa, os, on, ofs]
theorem s0c_bind {β : Type} {g23 : sheet_at.G} {s0 : S0} {s1 : S1} {s2 : S2} {s3 : S3} {x0 : ByteArray} {x1 : Int} {x2 : List D_api_Line} {x3 : Int} {x4 : Int} {x5 : List (List D_api_Value)} {ret : ((List (List D_api_Value))) → Option β} : s0c g23 s0 s1 s2 s3 x0 x1 x2 x3 x4 x5 ret = (s0c g23 s0 s1 s2 s3 x0 x1 x2 x3 x4 x5 some).bind ret := by
  simp only [s0c, bif_bind, sum_bind, oa, os, on, ofs]
theorem s1c_bind {β : Type} {g23 : sheet_at.G} {s0 : S0} {s1 : S1} {s2 : S2} {s3 : S3} {x0 : ByteArray} {x1 : Int} {x2 : List D_api_Line} {x3 : Int} {x4 : Int} {x5 : Bool} {x6 : List (List D_api_Value)} {x7 : ByteArray} {x8 : List D_api_Value} {ret : ((List (List D_api_Value))) → Option β} : s1c g23 s0 s1 s2 s3 x0 x1 x2 x3 x4 x5 x6 x7 x8 ret = (s1c g23 s0 s1 s2 s3 x0 x1 x2 x3 x4 x5 x6 x7 x8 some).bind ret := by
  simp only [s1c, bif_bind, sum_bind, oa, os, on, ofs]
theorem s2c_bind {β : Type} {g23 : sheet_at.G} {s0 : S0} {s1 : S1} {s2 : S2} {s3 : S3} {x0 : ByteArray} {x1 : Int} {x2 : List D_api_Line} {x3 : Int} {x4 : Int} {x5 : List (List D_api_Value)} {x6 : ByteArray} {x7 : List D_api_Value} {ret : ((List (List D_api_Value))) → Option β} : s2c g23 s0 s1 s2 s3 x0 x1 x2 x3 x4 x5 x6 x7 ret = (s2c g23 s0 s1 s2 s3 x0 x1 x2 x3 x4 x5 x6 x7 some).bind ret := by
  simp only [s2c, bif_bind, sum_bind, oa, os, on, ofs]
theorem s3c_bind {β : Type} {g23 : sheet_at.G} {s0 : S0} {s1 : S1} {s2 : S2} {s3 : S3} {x0 : ByteArray} {x1 : Int} {x2 : List D_api_Line} {x3 : Int} {x4 : Int} {x5 : List (List D_api_Value)} {ret : ((List (List D_api_Value))) → Option β} : s3c g23 s0 s1 s2 s3 x0 x1 x2 x3 x4 x5 ret = (s3c g23 s0 s1 s2 s3 x0 x1 x2 x3 x4 x5 some).bind ret := by
  simp only [s3c, bif_bind, sum_bind, oa, os, on, ofs]
theorem ev {g23 : sheet_at.G} {s0 : S0} {s1 : S1} {s2 : S2} {s3 : S3} {a0 : ByteArray} {a1 : Int} {a2 : List D_api_Col} {a3 : List D_api_Line} {a4 : ByteArray} {a5 : ByteArray} {a6 : Int} : evAt (env g23 s0 s1 s2 s3) [] [0, 1, 2, 3] [.v (.agg [(.d .str a0), (.d (.int .i64) a1), (.d (.sl T_api_Col) a2), (.d (.sl T_api_Line) a3)]), .v (.one (.d .str a4)), .v (.one (.d .str a5)), .v (.one (.d (.int .i64) a6))] [] some = c g23 s0 s1 s2 s3 a0 a1 a2 a3 a4 a5 a6 (fun r => some ⟨.v (.one (.d (.sl (.sl T_api_Value)) r)), []⟩) := by
  kernel_rfl
theorem s0_ev {g23 : sheet_at.G} {s0 : S0} {s1 : S1} {s2 : S2} {s3 : S3} {x0 : ByteArray} {x1 : Int} {x2 : List D_api_Line} {x3 : Int} {x4 : Int} {x5 : List (List D_api_Value)} : evAt (env g23 s0 s1 s2 s3) [4, 1, 0, 1, 1, 1] [2, 3, 11, 24, 25, 26] [.v (.one (.d .str x0)), .v (.one (.d (.int .i64) x1)), .v (.one (.own 0)), .v (.one (.d (.sl T_api_Line) x2)), .v (.one (.d (.int .i64) x3)), .v (.one (.d (.int .i64) x4))] [some (.own (.sl T_api_Value) false x5)] some = s0c g23 s0 s1 s2 s3 x0 x1 x2 x3 x4 x5 (fun r => some ⟨.v (.one (.d (.sl (.sl T_api_Value)) r)), []⟩) := by
  kernel_rfl
theorem s1_ev {g23 : sheet_at.G} {s0 : S0} {s1 : S1} {s2 : S2} {s3 : S3} {x0 : ByteArray} {x1 : Int} {x2 : List D_api_Line} {x3 : Int} {x4 : Int} {x5 : Bool} {x6 : List (List D_api_Value)} {x7 : ByteArray} {x8 : List D_api_Value} : evAt (env g23 s0 s1 s2 s3) [1, 0, 1, 4, 0, 1, 1, 5, 4, 1, 0, 1, 1, 1] [2, 3, 11, 13, 24, 25, 26, 43] [.v (.one (.d .str x0)), .v (.one (.d (.int .i64) x1)), .v (.one (.own 0)), .v (.one (.ptr 1 0)), .v (.one (.d (.sl T_api_Line) x2)), .v (.one (.d (.int .i64) x3)), .v (.one (.d (.int .i64) x4)), .v (.one (.d .bool x5))] [some (.own (.sl T_api_Value) false x6), some (.box [(.d .str x7), (.d (.sl T_api_Value) x8)])] some = s1c g23 s0 s1 s2 s3 x0 x1 x2 x3 x4 x5 x6 x7 x8 (fun r => some ⟨.v (.one (.d (.sl (.sl T_api_Value)) r)), []⟩) := by
  kernel_rfl
theorem s2_ev {g23 : sheet_at.G} {s0 : S0} {s1 : S1} {s2 : S2} {s3 : S3} {x0 : ByteArray} {x1 : Int} {x2 : List D_api_Line} {x3 : Int} {x4 : Int} {x5 : List (List D_api_Value)} {x6 : ByteArray} {x7 : List D_api_Value} : evAt (env g23 s0 s1 s2 s3) [1, 1, 4, 0, 1, 1, 5, 4, 1, 0, 1, 1, 1] [2, 3, 11, 13, 24, 25, 26] [.v (.one (.d .str x0)), .v (.one (.d (.int .i64) x1)), .v (.one (.own 0)), .v (.one (.ptr 1 0)), .v (.one (.d (.sl T_api_Line) x2)), .v (.one (.d (.int .i64) x3)), .v (.one (.d (.int .i64) x4))] [some (.own (.sl T_api_Value) false x5), some (.box [(.d .str x6), (.d (.sl T_api_Value) x7)])] some = s2c g23 s0 s1 s2 s3 x0 x1 x2 x3 x4 x5 x6 x7 (fun r => some ⟨.v (.one (.d (.sl (.sl T_api_Value)) r)), []⟩) := by
  kernel_rfl
theorem s3_ev {g23 : sheet_at.G} {s0 : S0} {s1 : S1} {s2 : S2} {s3 : S3} {x0 : ByteArray} {x1 : Int} {x2 : List D_api_Line} {x3 : Int} {x4 : Int} {x5 : List (List D_api_Value)} : evAt (env g23 s0 s1 s2 s3) [1, 1, 1, 5, 4, 1, 0, 1, 1, 1] [2, 3, 11, 24, 25, 26] [.v (.one (.d .str x0)), .v (.one (.d (.int .i64) x1)), .v (.one (.own 0)), .v (.one (.d (.sl T_api_Line) x2)), .v (.one (.d (.int .i64) x3)), .v (.one (.d (.int .i64) x4))] [some (.own (.sl T_api_Value) false x5)] some = s3c g23 s0 s1 s2 s3 x0 x1 x2 x3 x4 x5 (fun r => some ⟨.v (.one (.d (.sl (.sl T_api_Value)) r)), []⟩) := by
  kernel_rfl
mutual
def s0 : Nat → ByteArray → Int → (List D_api_Line) → Int → Int → (List (List D_api_Value)) → Option ((List (List D_api_Value)))
  | 0, _, _, _, _, _, _ => none
  | k + 1, x0, x1, x2, x3, x4, x5 => s0c (sheet_at.f k) (s0 k) (s1 k) (s2 k) (s3 k) x0 x1 x2 x3 x4 x5 some
def s1 : Nat → ByteArray → Int → (List D_api_Line) → Int → Int → Bool → (List (List D_api_Value)) → ByteArray → (List D_api_Value) → Option ((List (List D_api_Value)))
  | 0, _, _, _, _, _, _, _, _, _ => none
  | k + 1, x0, x1, x2, x3, x4, x5, x6, x7, x8 => s1c (sheet_at.f k) (s0 k) (s1 k) (s2 k) (s3 k) x0 x1 x2 x3 x4 x5 x6 x7 x8 some
def s2 : Nat → ByteArray → Int → (List D_api_Line) → Int → Int → (List (List D_api_Value)) → ByteArray → (List D_api_Value) → Option ((List (List D_api_Value)))
  | 0, _, _, _, _, _, _, _, _ => none
  | k + 1, x0, x1, x2, x3, x4, x5, x6, x7 => s2c (sheet_at.f k) (s0 k) (s1 k) (s2 k) (s3 k) x0 x1 x2 x3 x4 x5 x6 x7 some
def s3 : Nat → ByteArray → Int → (List D_api_Line) → Int → Int → (List (List D_api_Value)) → Option ((List (List D_api_Value)))
  | 0, _, _, _, _, _, _ => none
  | k + 1, x0, x1, x2, x3, x4, x5 => s3c (sheet_at.f k) (s0 k) (s1 k) (s2 k) (s3 k) x0 x1 x2 x3 x4 x5 some
end
def f (k : Nat) (a0 : ByteArray) (a1 : Int) (a2 : List D_api_Col) (a3 : List D_api_Line) (a4 : ByteArray) (a5 : ByteArray) (a6 : Int) : Option ((List (List D_api_Value))) := c (sheet_at.f k) (s0 k) (s1 k) (s2 k) (s3 k) a0 a1 a2 a3 a4 a5 a6 some
theorem is {g23 : sheet_at.G} {s0 : S0} {s1 : S1} {s2 : S2} {s3 : S3} : FnIs (env g23 s0 s1 s2 s3) 20 f20 := ⟨func20, rfl, rfl, rfl, by decide⟩
theorem envok {g23 : sheet_at.G} {s0 : S0} {s1 : S1} {s2 : S2} {s3 : S3} (h23 : CtOK prog 23 (sheet_at.ct g23)) : EnvOK (env g23 s0 s1 s2 s3).toEnv := by
  intro f c h
  simp only [env] at h
  split at h
  · rename_i e; subst e; cases h; exact h23
  simp at h
noncomputable abbrev E (k : Nat) : FEnv := env (sheet_at.f k) (s0 k) (s1 k) (s2 k) (s3 k)
theorem hE (k : Nat) : EnvOK (E k).toEnv := envok (sheet_at.ok k)
theorem segs_ok : ∀ k, ∀ s ∈ (E k).segs, SegOK (E k) f20 s
  | 0 => by
    intro s hs
    simp only [E, env, List.mem_cons, List.not_mem_nil, or_false] at hs
    rcases hs with rfl | rfl | rfl | rfl
    · intro tvs blks res h; exfalso; simp only [sg0] at h; split at h <;> simp [s0] at h
    · intro tvs blks res h; exfalso; simp only [sg1] at h; split at h <;> simp [s1] at h
    · intro tvs blks res h; exfalso; simp only [sg2] at h; split at h <;> simp [s2] at h
    · intro tvs blks res h; exfalso; simp only [sg3] at h; split at h <;> simp [s3] at h
  | k + 1 => by
    intro s hs
    simp only [E, env, List.mem_cons, List.not_mem_nil, or_false] at hs
    rcases hs with rfl | rfl | rfl | rfl
    · refine seg_of_ev (E := E k) (hE k) ⟨is.rvs⟩ (segs_ok k) ?_
      intro tvs blks res h
      simp only [sg0] at h
      split at h
      · exact (s0_ev.trans s0c_bind).trans h
      · simp at h
    · refine seg_of_ev (E := E k) (hE k) ⟨is.rvs⟩ (segs_ok k) ?_
      intro tvs blks res h
      simp only [sg1] at h
      split at h
      · exact (s1_ev.trans s1c_bind).trans h
      · simp at h
    · refine seg_of_ev (E := E k) (hE k) ⟨is.rvs⟩ (segs_ok k) ?_
      intro tvs blks res h
      simp only [sg2] at h
      split at h
      · exact (s2_ev.trans s2c_bind).trans h
      · simp at h
    · refine seg_of_ev (E := E k) (hE k) ⟨is.rvs⟩ (segs_ok k) ?_
      intro tvs blks res h
      simp only [sg3] at h
      split at h
      · exact (s3_ev.trans s3c_bind).trans h
      · simp at h
theorem ok (k : Nat) : CtOK prog 20 (ct (f k)) := by
  refine ct_of_ev (E := E k) is (hE k) (segs_ok k) rfl ?_
  intro tvs blks res h
  simp only [ct] at h
  split at h
  · exact (ev.trans c_bind).trans h
  · simp at h
end sheet_Range
namespace sheet_Check
abbrev G : Type := ByteArray → Int → (List D_api_Col) → (List D_api_Line) → Option Int
def ct (g : G) : Ct where
  nin := 0
  mv := []
  F := fun tvs blks {β} K => match tvs, blks with
    | [.v (.agg [(.d .str a0), (.d (.int .i64) a1), (.d (.sl (.pair .str (.pair (.int .i64) (.pair .bool (.pair (.pair (.int .i64) (.pair (.int .i64) (.pair (.int .u64) (.pair .str .unit)))) .unit))))) a2), (.d (.sl (.pair .str (.pair (.sl (.pair (.int .i64) (.pair (.int .i64) (.pair (.int .u64) (.pair .str .unit))))) .unit))) a3)])], [] => (g a0 a1 a2 a3).bind fun r => K ⟨.v (.one (.d (.int .i64) r)), []⟩
    | _, _ => none
  legit := fun _ _ K _ h => by split at h; exact (legit1 K h :); simp at h
abbrev S0 : Type := (List D_api_Line) → Int → Int → ByteArray → Int → (List D_api_Col) → (List D_api_Line) → Option Int
abbrev S1 : Type := (List D_api_Line) → Int → Int → Bool → ByteArray → Int → (List D_api_Col) → (List D_api_Line) → Option Int
abbrev S2 : Type := (List D_api_Line) → Int → Int → ByteArray → Int → (List D_api_Col) → (List D_api_Line) → Option Int
def sg0 (g : S0) : Seg where
  path := [4, 1, 0, 1, 1]
  prep := []
  keep := [1, 15, 16, 17]
  F := fun tvs blks {β} K => match tvs, blks with
    | [.v (.one (.ptr 0 0)), .v (.one (.d (.sl (.pair .str (.pair (.sl (.pair (.int .i64) (.pair (.int .i64) (.pair (.int .u64) (.pair .str .unit))))) .unit))) x0)), .v (.one (.d (.int .i64) x1)), .v (.one (.d (.int .i64) x2))], [some (.box [(.d .str x3), (.d (.int .i64) x4), (.d (.sl (.pair .str (.pair (.int .i64) (.pair .bool (.pair (.pair (.int .i64) (.pair (.int .i64) (.pair (.int .u64) (.pair .str .unit)))) .unit))))) x5), (.d (.sl (.pair .str (.pair (.sl (.pair (.int .i64) (.pair (.int .i64) (.pair (.int .u64) (.pair .str .unit))))) .unit))) x6)])] => (g x0 x1 x2 x3 x4 x5 x6).bind fun r => K ⟨.v (.one (.d (.int .i64) r)), []⟩
    | _, _ => none
  legit := fun _ _ K _ h => by split at h; exact (legit1 K h :); simp at h
def sg1 (g : S1) : Seg where
  path := [1, 3, 1, 3, 1, 4, 1, 1, 4, 0, 1, 1, 5, 4, 1, 0, 1, 1]
  prep := []
  keep := [1, 15, 16, 17, 39]
  F := fun tvs blks {β} K => match tvs, blks with
    | [.v (.one (.ptr 0 0)), .v (.one (.d (.sl (.pair .str (.pair (.sl (.pair (.int .i64) (.pair (.int .i64) (.pair (.int .u64) (.pair .str .unit))))) .unit))) x0)), .v (.one (.d (.int .i64) x1)), .v (.one (.d (.int .i64) x2)), .v (.one (.d .bool x3))], [some (.box [(.d .str x4), (.d (.int .i64) x5), (.d (.sl (.pair .str (.pair (.int .i64) (.pair .bool (.pair (.pair (.int .i64) (.pair (.int .i64) (.pair (.int .u64) (.pair .str .unit)))) .unit))))) x6), (.d (.sl (.pair .str (.pair (.sl (.pair (.int .i64) (.pair (.int .i64) (.pair (.int .u64) (.pair .str .unit))))) .unit))) x7)])] => (g x0 x1 x2 x3 x4 x5 x6 x7).bind fun r => K ⟨.v (.one (.d (.int .i64) r)), []⟩
    | _, _ => none
  legit := fun _ _ K _ h => by split at h; exact (legit1 K h :); simp at h
def sg2 (g : S2) : Seg where
  path := [1, 1, 1, 5, 4, 1, 0, 1, 1]
  prep := []
  keep := [1, 15, 16, 17]
  F := fun tvs blks {β} K => match tvs, blks with
    | [.v (.one (.ptr 0 0)), .v (.one (.d (.sl (.pair .str (.pair (.sl (.pair (.int .i64) (.pair (.int .i64) (.pair (.int .u64) (.pair .str .unit))))) .unit))) x0)), .v (.one (.d (.int .i64) x1)), .v (.one (.d (.int .i64) x2))], [some (.box [(.d .str x3), (.d (.int .i64) x4), (.d (.sl (.pair .str (.pair (.int .i64) (.pair .bool (.pair (.pair (.int .i64) (.pair (.int .i64) (.pair (.int .u64) (.pair .str .unit)))) .unit))))) x5), (.d (.sl (.pair .str (.pair (.sl (.pair (.int .i64) (.pair (.int .i64) (.pair (.int .u64) (.pair .str .unit))))) .unit))) x6)])] => (g x0 x1 x2 x3 x4 x5 x6).bind fun r => K ⟨.v (.one (.d (.int .i64) r)), []⟩
    | _, _ => none
  legit := fun _ _ K _ h => by split at h; exact (legit1 K h :); simp at h
noncomputable def env (g22 : schema_Key.G) (g29 : schema_Check.G) (s0 : S0) (s1 : S1) (s2 : S2) : FEnv := { P := prog, ct := fun m => if m = 22 then some (schema_Key.ct g22) else if m = 29 then some (schema_Check.ct g29) else none, N := 54, body := f21.body.getD .skip, rvs := [.tmp 2], rts := [32], nin := 0, rmv := [], segs := [sg0 s0, sg1 s1, sg2 s2] }
def c {β : Type} (g22 : schema_Key.G) (g29 : schema_Check.G) (s0 : S0) (s1 : S1) (s2 : S2) (a0 : ByteArray) (a1 : Int) (a2 : List D_api_Col) (a3 : List D_api_Line) (ret : Int → Option β) : Option β := ((g29 a0 a1 a2).bind fun r0 => (bif (r0 != (0 : Int)) then (ret (r0)) else ((s0 a3 ((List.length a3) : Int) (0 : Int) a0 a1 a2 a3).bind ret)))
def s0c {β : Type} (g22 : schema_Key.G) (g29 : schema_Check.G) (s0 : S0) (s1 : S1) (s2 : S2) (x0 : List D_api_Line) (x1 : Int) (x2 : Int) (x3 : ByteArray) (x4 : Int) (x5 : List D_api_Col) (x6 : List D_api_Line) (ret : Int → Option β) : Option β := (bif (decide (x2 < x1)) then (bif ((decide ((0 : Int) ≤ x2)) && (decide (x2 < ((List.length x0) : Int)))) then ((g22 x3 x4 x5 (elem T_api_Line x0 x2).2.1).bind fun r0 => (bif (r0.2 != (0 : Int)) then (ret (r0.2)) else (bif (!((ByteArray.toList r0.1) == (ByteArray.toList (elem T_api_Line x0 x2).1))) then (ret ((4 : Int))) else (bif (decide (x2 > (0 : Int))) then (bif ((decide ((0 : Int) ≤ (IntKind.wrap IntKind.i64 (x2 - (1 : Int))))) && (decide ((IntKind.wrap IntKind.i64 (x2 - (1 : Int))) < ((List.length x6) : Int)))) then ((s1 x0 x1 x2 ((Op.bytesLess (ByteArray.toList r0.1) (ByteArray.toList (elem T_api_Line x6 (IntKind.wrap IntKind.i64 (x2 - (1 : Int)))).1)) || ((ByteArray.toList r0.1) == (ByteArray.toList (elem T_api_Line x6 (IntKind.wrap IntKind.i64 (x2 - (1 : Int)))).1))) x3 x4 x5 x6).bind ret) else none) else ((s1 x0 x1 x2 false x3 x4 x5 x6).bind ret))))) else none) else (ret ((0 : Int))))
def s1c {β : Type} (g22 : schema_Key.G) (g29 : schema_Check.G) (s0 : S0) (s1 : S1) (s2 : S2) (x0 : List D_api_Line) (x1 : Int) (x2 : Int) (x3 : Bool) (x4 : ByteArray) (x5 : Int) (x6 : List D_api_Col) (x7 : List D_api_Line) (ret : Int → Option β) : Option β := (bif x3 then (ret ((13 : Int))) else ((s2 x0 x1 x2 x4 x5 x6 x7).bind ret))
def s2c {β : Type} (g22 : schema_Key.G) (g29 : schema_Check.G) (s0 : S0) (s1 : S1) (s2 : S2) (x0 : List D_api_Line) (x1 : Int) (x2 : Int) (x3 : ByteArray) (x4 : Int) (x5 : List D_api_Col) (x6 : List D_api_Line) (ret : Int → Option β) : Option β := ((s0 x0 x1 (IntKind.wrap IntKind.i64 (x2 + (1 : Int))) x3 x4 x5 x6).bind ret)
theorem c_bind {β : Type} {g22 : schema_Key.G} {g29 : schema_Check.G} {s0 : S0} {s1 : S1} {s2 : S2} {a0 : ByteArray} {a1 : Int} {a2 : List D_api_Col} {a3 : List D_api_Line} {ret : Int → Option β} : c g22 g29 s0 s1 s2 a0 a1 a2 a3 ret = (c g22 g29 s0 s1 s2 a0 a1 a2 a3 some).bind ret := by
  simp only [c, bif_bind, sum_bind, oa, os, on, ofs]
theorem s0c_bind {β : Type} {g22 : schema_Key.G} {g29 : schema_Check.G} {s0 : S0} {s1 : S1} {s2 : S2} {x0 : List D_api_Line} {x1 : Int} {x2 : Int} {x3 : ByteArray} {x4 : Int} {x5 : List D_api_Col} {x6 : List D_api_Line} {ret : Int → Option β} : s0c g22 g29 s0 s1 s2 x0 x1 x2 x3 x4 x5 x6 ret = (s0c g22 g29 s0 s1 s2 x0 x1 x2 x3 x4 x5 x6 some).bind ret := by
  simp only [s0c, bif_bind, sum_bind, oa, os, on, ofs]
theorem s1c_bind {β : Type} {g22 : schema_Key.G} {g29 : schema_Check.G} {s0 : S0} {s1 : S1} {s2 : S2} {x0 : List D_api_Line} {x1 : Int} {x2 : Int} {x3 : Bool} {x4 : ByteArray} {x5 : Int} {x6 : List D_api_Col} {x7 : List D_api_Line} {ret : Int → Option β} : s1c g22 g29 s0 s1 s2 x0 x1 x2 x3 x4 x5 x6 x7 ret = (s1c g22 g29 s0 s1 s2 x0 x1 x2 x3 x4 x5 x6 x7 some).bind ret := by
  simp only [s1c, bif_bind, sum_bind, oa, os, on, ofs]
theorem s2c_bind {β : Type} {g22 : schema_Key.G} {g29 : schema_Check.G} {s0 : S0} {s1 : S1} {s2 : S2} {x0 : List D_api_Line} {x1 : Int} {x2 : Int} {x3 : ByteArray} {x4 : Int} {x5 : List D_api_Col} {x6 : List D_api_Line} {ret : Int → Option β} : s2c g22 g29 s0 s1 s2 x0 x1 x2 x3 x4 x5 x6 ret = (s2c g22 g29 s0 s1 s2 x0 x1 x2 x3 x4 x5 x6 some).bind ret := by
  simp only [s2c, bif_bind, sum_bind, oa, os, on, ofs]
theorem ev {g22 : schema_Key.G} {g29 : schema_Check.G} {s0 : S0} {s1 : S1} {s2 : S2} {a0 : ByteArray} {a1 : Int} {a2 : List D_api_Col} {a3 : List D_api_Line} : evAt (env g22 g29 s0 s1 s2) [] [0] [.v (.agg [(.d .str a0), (.d (.int .i64) a1), (.d (.sl T_api_Col) a2), (.d (.sl T_api_Line) a3)])] [] some = c g22 g29 s0 s1 s2 a0 a1 a2 a3 (fun r => some ⟨.v (.one (.d (.int .i64) r)), []⟩) := by
  kernel_rfl
theorem s0_ev {g22 : schema_Key.G} {g29 : schema_Check.G} {s0 : S0} {s1 : S1} {s2 : S2} {x0 : List D_api_Line} {x1 : Int} {x2 : Int} {x3 : ByteArray} {x4 : Int} {x5 : List D_api_Col} {x6 : List D_api_Line} : evAt (env g22 g29 s0 s1 s2) [4, 1, 0, 1, 1] [1, 15, 16, 17] [.v (.one (.ptr 0 0)), .v (.one (.d (.sl T_api_Line) x0)), .v (.one (.d (.int .i64) x1)), .v (.one (.d (.int .i64) x2))] [some (.box [(.d .str x3), (.d (.int .i64) x4), (.d (.sl T_api_Col) x5), (.d (.sl T_api_Line) x6)])] some = s0c g22 g29 s0 s1 s2 x0 x1 x2 x3 x4 x5 x6 (fun r => some ⟨.v (.one (.d (.int .i64) r)), []⟩) := by
  kernel_rfl
theorem s1_ev {g22 : schema_Key.G} {g29 : schema_Check.G} {s0 : S0} {s1 : S1} {s2 : S2} {x0 : List D_api_Line} {x1 : Int} {x2 : Int} {x3 : Bool} {x4 : ByteArray} {x5 : Int} {x6 : List D_api_Col} {x7 : List D_api_Line} : evAt (env g22 g29 s0 s1 s2) [1, 3, 1, 3, 1, 4, 1, 1, 4, 0, 1, 1, 5, 4, 1, 0, 1, 1] [1, 15, 16, 17, 39] [.v (.one (.ptr 0 0)), .v (.one (.d (.sl T_api_Line) x0)), .v (.one (.d (.int .i64) x1)), .v (.one (.d (.int .i64) x2)), .v (.one (.d .bool x3))] [some (.box [(.d .str x4), (.d (.int .i64) x5), (.d (.sl T_api_Col) x6), (.d (.sl T_api_Line) x7)])] some = s1c g22 g29 s0 s1 s2 x0 x1 x2 x3 x4 x5 x6 x7 (fun r => some ⟨.v (.one (.d (.int .i64) r)), []⟩) := by
  kernel_rfl
theorem s2_ev {g22 : schema_Key.G} {g29 : schema_Check.G} {s0 : S0} {s1 : S1} {s2 : S2} {x0 : List D_api_Line} {x1 : Int} {x2 : Int} {x3 : ByteArray} {x4 : Int} {x5 : List D_api_Col} {x6 : List D_api_Line} : evAt (env g22 g29 s0 s1 s2) [1, 1, 1, 5, 4, 1, 0, 1, 1] [1, 15, 16, 17] [.v (.one (.ptr 0 0)), .v (.one (.d (.sl T_api_Line) x0)), .v (.one (.d (.int .i64) x1)), .v (.one (.d (.int .i64) x2))] [some (.box [(.d .str x3), (.d (.int .i64) x4), (.d (.sl T_api_Col) x5), (.d (.sl T_api_Line) x6)])] some = s2c g22 g29 s0 s1 s2 x0 x1 x2 x3 x4 x5 x6 (fun r => some ⟨.v (.one (.d (.int .i64) r)), []⟩) := by
  kernel_rfl
mutual
def s0 : Nat → (List D_api_Line) → Int → Int → ByteArray → Int → (List D_api_Col) → (List D_api_Line) → Option Int
  | 0, _, _, _, _, _, _, _ => none
  | k + 1, x0, x1, x2, x3, x4, x5, x6 => s0c (schema_Key.f k) (schema_Check.f k) (s0 k) (s1 k) (s2 k) x0 x1 x2 x3 x4 x5 x6 some
def s1 : Nat → (List D_api_Line) → Int → Int → Bool → ByteArray → Int → (List D_api_Col) → (List D_api_Line) → Option Int
  | 0, _, _, _, _, _, _, _, _ => none
  | k + 1, x0, x1, x2, x3, x4, x5, x6, x7 => s1c (schema_Key.f k) (schema_Check.f k) (s0 k) (s1 k) (s2 k) x0 x1 x2 x3 x4 x5 x6 x7 some
def s2 : Nat → (List D_api_Line) → Int → Int → ByteArray → Int → (List D_api_Col) → (List D_api_Line) → Option Int
  | 0, _, _, _, _, _, _, _ => none
  | k + 1, x0, x1, x2, x3, x4, x5, x6 => s2c (schema_Key.f k) (schema_Check.f k) (s0 k) (s1 k) (s2 k) x0 x1 x2 x3 x4 x5 x6 some
end
def f (k : Nat) (a0 : ByteArray) (a1 : Int) (a2 : List D_api_Col) (a3 : List D_api_Line) : Option Int := c (schema_Key.f k) (schema_Check.f k) (s0 k) (s1 k) (s2 k) a0 a1 a2 a3 some
theorem is {g22 : schema_Key.G} {g29 : schema_Check.G} {s0 : S0} {s1 : S1} {s2 : S2} : FnIs (env g22 g29 s0 s1 s2) 21 f21 := ⟨func21, rfl, rfl, rfl, by decide⟩
theorem envok {g22 : schema_Key.G} {g29 : schema_Check.G} {s0 : S0} {s1 : S1} {s2 : S2} (h22 : CtOK prog 22 (schema_Key.ct g22)) (h29 : CtOK prog 29 (schema_Check.ct g29)) : EnvOK (env g22 g29 s0 s1 s2).toEnv := by
  intro f c h
  simp only [env] at h
  split at h
  · rename_i e; subst e; cases h; exact h22
  split at h
  · rename_i e; subst e; cases h; exact h29
  simp at h
noncomputable abbrev E (k : Nat) : FEnv := env (schema_Key.f k) (schema_Check.f k) (s0 k) (s1 k) (s2 k)
theorem hE (k : Nat) : EnvOK (E k).toEnv := envok (schema_Key.ok k) (schema_Check.ok k)
theorem segs_ok : ∀ k, ∀ s ∈ (E k).segs, SegOK (E k) f21 s
  | 0 => by
    intro s hs
    simp only [E, env, List.mem_cons, List.not_mem_nil, or_false] at hs
    rcases hs with rfl | rfl | rfl
    · intro tvs blks res h; exfalso; simp only [sg0] at h; split at h <;> simp [s0] at h
    · intro tvs blks res h; exfalso; simp only [sg1] at h; split at h <;> simp [s1] at h
    · intro tvs blks res h; exfalso; simp only [sg2] at h; split at h <;> simp [s2] at h
  | k + 1 => by
    intro s hs
    simp only [E, env, List.mem_cons, List.not_mem_nil, or_false] at hs
    rcases hs with rfl | rfl | rfl
    · refine seg_of_ev (E := E k) (hE k) ⟨is.rvs⟩ (segs_ok k) ?_
      intro tvs blks res h
      simp only [sg0] at h
      split at h
      · exact (s0_ev.trans s0c_bind).trans h
      · simp at h
    · refine seg_of_ev (E := E k) (hE k) ⟨is.rvs⟩ (segs_ok k) ?_
      intro tvs blks res h
      simp only [sg1] at h
      split at h
      · exact (s1_ev.trans s1c_bind).trans h
      · simp at h
    · refine seg_of_ev (E := E k) (hE k) ⟨is.rvs⟩ (segs_ok k) ?_
      intro tvs blks res h
      simp only [sg2] at h
      split at h
      · exact (s2_ev.trans s2c_bind).trans h
      · simp at h
theorem ok (k : Nat) : CtOK prog 21 (ct (f k)) := by
  refine ct_of_ev (E := E k) is (hE k) (segs_ok k) rfl ?_
  intro tvs blks res h
  simp only [ct] at h
  split at h
  · exact (ev.trans c_bind).trans h
  · simp at h
end sheet_Check
end Go.Proofs.YtdbbkmmillnaiaaGreatDoor.Aev
