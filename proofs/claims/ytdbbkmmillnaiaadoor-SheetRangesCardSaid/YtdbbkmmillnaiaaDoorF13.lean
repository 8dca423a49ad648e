/- By a program of this session (AEV): functions of the program as plain functions, and that the machine does what they say. -/
import Derived.Test.YtdbbkmmillnaiaaDoorTys
import Derived.Test.YtdbbkmmillnaiaaDoorProg
import Derived.Laws.Externs
import Derived.Lib.Bytealg
import Derived.Test.YtdbbkmmillnaiaaDoorF11
namespace Go.Proofs.YtdbbkmmillnaiaaDoor.Aev
set_option linter.unusedVariables false
set_option linter.unusedSimpArgs false
set_option maxRecDepth 100000
set_option maxHeartbeats 4000000
open Go Go.Proofs.Tryd
namespace transomref06_All
abbrev G : Type := (List (List D_api_Value)) → (List (List D_api_Value)) → Option Bool
def ct (g : G) : Ct where
  nin := 0
  mv := []
  F := fun tvs blks {β} K => match tvs, blks with
    | [.v (.one (.d (.sl (.sl (.pair (.int .i64) (.pair (.int .i64) (.pair (.int .u64) (.pair .str .unit)))))) a0)), .v (.one (.d (.sl (.sl (.pair (.int .i64) (.pair (.int .i64) (.pair (.int .u64) (.pair .str .unit)))))) a1))], [] => (g a0 a1).bind fun r => K ⟨.v (.one (.d .bool r)), []⟩
    | _, _ => none
  legit := fun _ _ K _ h => by split at h; exact (legit1 K h :); simp at h
abbrev S0 : Type := (List (List D_api_Value)) → (List (List D_api_Value)) → Int → Option Bool
def sg0 (g : S0) : Seg where
  path := [4, 1, 0, 1, 1]
  prep := []
  keep := [0, 1, 5]
  F := fun tvs blks {β} K => match tvs, blks with
    | [.v (.one (.d (.sl (.sl (.pair (.int .i64) (.pair (.int .i64) (.pair (.int .u64) (.pair .str .unit)))))) x0)), .v (.one (.d (.sl (.sl (.pair (.int .i64) (.pair (.int .i64) (.pair (.int .u64) (.pair .str .unit)))))) x1)), .v (.one (.d (.int .i64) x2))], [] => (g x0 x1 x2).bind fun r => K ⟨.v (.one (.d .bool r)), []⟩
    | _, _ => none
  legit := fun _ _ K _ h => by split at h; exact (legit1 K h :); simp at h
noncomputable def env (g23 : transomref06_Same.G) (s0 : S0) : FEnv := { P := prog, ct := fun m => if m = 23 then some (transomref06_Same.ct g23) else none, N := 27, body := f12.body.getD .skip, rvs := [.tmp 4], rts := [4], nin := 0, rmv := [], segs := [sg0 s0] }
def c {β : Type} (g23 : transomref06_Same.G) (s0 : S0) (a0 : List (List D_api_Value)) (a1 : List (List D_api_Value)) (ret : Bool → Option β) : Option β := (bif (((List.length a0) : Int) != ((List.length a1) : Int)) then (ret (false)) else ((s0 a0 a1 (0 : Int)).bind ret))
def s0c {β : Type} (g23 : transomref06_Same.G) (s0 : S0) (x0 : List (List D_api_Value)) (x1 : List (List D_api_Value)) (x2 : Int) (ret : Bool → Option β) : Option β := (bif (decide (x2 < ((List.length x0) : Int))) then (bif ((decide ((0 : Int) ≤ x2)) && (decide (x2 < ((List.length x0) : Int)))) then (bif ((decide ((0 : Int) ≤ x2)) && (decide (x2 < ((List.length x1) : Int)))) then ((g23 (elem (Ty.sl T_api_Value) x0 x2) (elem (Ty.sl T_api_Value) x1 x2)).bind fun r0 => (bif (!r0) then (ret (false)) else ((s0 x0 x1 (IntKind.wrap IntKind.i64 (x2 + (1 : Int)))).bind ret))) else none) else none) else (ret (true)))
theorem c_bind {β : Type} {g23 : transomref06_Same.G} {s0 : S0} {a0 : List (List D_api_Value)} {a1 : List (List D_api_Value)} {ret : Bool → Option β} : c g23 s0 a0 a1 ret = (c g23 s0 a0 a1 some).bind ret := by
  simp only [c, bif_bind, sum_bind, oa, os, on, ofs]
theorem s0c_bind {β : Type} {g23 : transomref06_Same.G} {s0 : S0} {x0 : List (List D_api_Value)} {x1 : List (List D_api_Value)} {x2 : Int} {ret : Bool → Option β} : s0c g23 s0 x0 x1 x2 ret = (s0c g23 s0 x0 x1 x2 some).bind ret := by
  simp only [s0c, bif_bind, sum_bind, oa, os, on, ofs]
theorem ev {g23 : transomref06_Same.G} {s0 : S0} {a0 : List (List D_api_Value)} {a1 : List (List D_api_Value)} : evAt (env g23 s0) [] [0, 1] [.v (.one (.d (.sl (.sl T_api_Value)) a0)), .v (.one (.d (.sl (.sl T_api_Value)) a1))] [] some = c g23 s0 a0 a1 (fun r => some ⟨.v (.one (.d .bool r)), []⟩) := by
  kernel_rfl
theorem s0_ev {g23 : transomref06_Same.G} {s0 : S0} {x0 : List (List D_api_Value)} {x1 : List (List D_api_Value)} {x2 : Int} : evAt (env g23 s0) [4, 1, 0, 1, 1] [0, 1, 5] [.v (.one (.d (.sl (.sl T_api_Value)) x0)), .v (.one (.d (.sl (.sl T_api_Value)) x1)), .v (.one (.d (.int .i64) x2))] [] some = s0c g23 s0 x0 x1 x2 (fun r => some ⟨.v (.one (.d .bool r)), []⟩) := by
  kernel_rfl
def s0 : Nat → (List (List D_api_Value)) → (List (List D_api_Value)) → Int → Option Bool
  | 0, _, _, _ => none
  | k + 1, x0, x1, x2 => s0c (transomref06_Same.f k) (s0 k) x0 x1 x2 some
def f (k : Nat) (a0 : List (List D_api_Value)) (a1 : List (List D_api_Value)) : Option Bool := c (transomref06_Same.f k) (s0 k) a0 a1 some
theorem is {g23 : transomref06_Same.G} {s0 : S0} : FnIs (env g23 s0) 12 f12 := ⟨func12, rfl, rfl, rfl, by decide⟩
theorem envok {g23 : transomref06_Same.G} {s0 : S0} (h23 : CtOK prog 23 (transomref06_Same.ct g23)) : EnvOK (env g23 s0).toEnv := by
  intro f c h
  simp only [env] at h
  split at h
  · rename_i e; subst e; cases h; exact h23
  simp at h
noncomputable abbrev E (k : Nat) : FEnv := env (transomref06_Same.f k) (s0 k)
theorem hE (k : Nat) : EnvOK (E k).toEnv := envok (transomref06_Same.ok k)
theorem segs_ok : ∀ k, ∀ s ∈ (E k).segs, SegOK (E k) f12 s
  | 0 => by
    intro s hs
    simp only [E, env, List.mem_cons, List.not_mem_nil, or_false] at hs
    rcases hs with rfl
    · intro tvs blks res h; exfalso; simp only [sg0] at h; split at h <;> simp [s0] at h
  | k + 1 => by
    intro s hs
    simp only [E, env, List.mem_cons, List.not_mem_nil, or_false] at hs
    rcases hs with rfl
    · refine seg_of_ev (E := E k) (hE k) ⟨is.rvs⟩ (segs_ok k) ?_
      intro tvs blks res h
      simp only [sg0] at h
      split at h
      · exact (s0_ev.trans s0c_bind).trans h
      · simp at h
theorem ok (k : Nat) : CtOK prog 12 (ct (f k)) := by
  refine ct_of_ev (E := E k) is (hE k) (segs_ok k) rfl ?_
  intro tvs blks res h
  simp only [ct] at h
  split at h
  · exact (ev.trans c_bind).trans h
  · simp at h
end transomref06_All
namespace transomref12_Range
abbrev G : Type := ByteArray → Int → (List D_api_Col) → (List D_api_Line) → ByteArray → ByteArray → Int → Option ((List (List D_api_Value)))
def ct (g : G) : Ct where
  nin := 0
  mv := []
  F := fun tvs blks {β} K => match tvs, blks with
    | [.v (.agg [(.d .str a0), (.d (.int .i64) a1), (.d (.sl (.pair .str (.pair (.int .i64) (.pair .bool (.pair (.pair (.int .i64) (.pair (.int .i64) (.pair (.int .u64) (.pair .str .unit)))) .unit))))) a2), (.d (.sl (.pair .str (.pair (.sl (.pair (.int .i64) (.pair (.int .i64) (.pair (.int .u64) (.pair .str .unit))))) .unit))) a3)]), .v (.one (.d .str a4)), .v (.one (.d .str a5)), .v (.one (.d (.int .i64) a6))], [] => (g a0 a1 a2 a3 a4 a5 a6).bind fun r => K ⟨.v (.one (.d (.sl (.sl T_api_Value)) r)), []⟩
    | _, _ => none
  legit := fun _ _ K _ h => by split at h; exact (legit1 K h :); simp at h
abbrev S0 : Type := ByteArray → ByteArray → Int → Int → ByteArray → Int → (List D_api_Col) → (List D_api_Line) → (List (List D_api_Value)) → Option ((List (List D_api_Value)))
abbrev S1 : Type := ByteArray → ByteArray → Int → Int → Bool → ByteArray → Int → (List D_api_Col) → (List D_api_Line) → (List (List D_api_Value)) → Option ((List (List D_api_Value)))
abbrev S2 : Type := ByteArray → ByteArray → Int → Int → ByteArray → Int → (List D_api_Col) → (List D_api_Line) → (List (List D_api_Value)) → Option ((List (List D_api_Value)))
abbrev S3 : Type := ByteArray → ByteArray → Int → Int → Bool → ByteArray → Int → (List D_api_Col) → (List D_api_Line) → (List (List D_api_Value)) → Option ((List (List D_api_Value)))
abbrev S4 : Type := ByteArray → ByteArray → Int → Int → ByteArray → Int → (List D_api_Col) → (List D_api_Line) → (List (List D_api_Value)) → Option ((List (List D_api_Value)))
def sg0 (g : S0) : Seg where
  path := [4, 1, 0, 1, 1]
  prep := [.own 9 (.sl T_api_Value)]
  keep := [1, 2, 3, 4, 9, 10]
  F := fun tvs blks {β} K => match tvs, blks with
    | [.v (.one (.d .str x0)), .v (.one (.d .str x1)), .v (.one (.d (.int .i64) x2)), .v (.one (.ptr 0 0)), .v (.one (.own 1)), .v (.one (.d (.int .i64) x3))], [some (.box [(.d .str x4), (.d (.int .i64) x5), (.d (.sl (.pair .str (.pair (.int .i64) (.pair .bool (.pair (.pair (.int .i64) (.pair (.int .i64) (.pair (.int .u64) (.pair .str .unit)))) .unit))))) x6), (.d (.sl (.pair .str (.pair (.sl (.pair (.int .i64) (.pair (.int .i64) (.pair (.int .u64) (.pair .str .unit))))) .unit))) x7)]), some (.own (.sl (.pair (.int .i64) (.pair (.int .i64) (.pair (.int .u64) (.pair .str .unit))))) false x8)] => (g x0 x1 x2 x3 x4 x5 x6 x7 x8).bind fun r => K ⟨.v (.one (.d (.sl (.sl T_api_Value)) r)), []⟩
    | _, _ => none
  legit := fun _ _ K _ h => by split at h; exact (legit1 K h :); simp at h
def sg1 (g : S1) : Seg where
  path := [1, 0, 5, 4, 1, 0, 1, 1]
  prep := []
  keep := [1, 2, 3, 4, 9, 10, 22]
  F := fun tvs blks {β} K => match tvs, blks with
    | [.v (.one (.d .str x0)), .v (.one (.d .str x1)), .v (.one (.d (.int .i64) x2)), .v (.one (.ptr 0 0)), .v (.one (.own 1)), .v (.one (.d (.int .i64) x3)), .v (.one (.d .bool x4))], [some (.box [(.d .str x5), (.d (.int .i64) x6), (.d (.sl (.pair .str (.pair (.int .i64) (.pair .bool (.pair (.pair (.int .i64) (.pair (.int .i64) (.pair (.int .u64) (.pair .str .unit)))) .unit))))) x7), (.d (.sl (.pair .str (.pair (.sl (.pair (.int .i64) (.pair (.int .i64) (.pair (.int .u64) (.pair .str .unit))))) .unit))) x8)]), some (.own (.sl (.pair (.int .i64) (.pair (.int .i64) (.pair (.int .u64) (.pair .str .unit))))) false x9)] => (g x0 x1 x2 x3 x4 x5 x6 x7 x8 x9).bind fun r => K ⟨.v (.one (.d (.sl (.sl T_api_Value)) r)), []⟩
    | _, _ => none
  legit := fun _ _ K _ h => by split at h; exact (legit1 K h :); simp at h
def sg2 (g : S2) : Seg where
  path := [1, 5, 4, 1, 0, 1, 1]
  prep := []
  keep := [1, 2, 3, 4, 9, 10]
  F := fun tvs blks {β} K => match tvs, blks with
    | [.v (.one (.d .str x0)), .v (.one (.d .str x1)), .v (.one (.d (.int .i64) x2)), .v (.one (.ptr 0 0)), .v (.one (.own 1)), .v (.one (.d (.int .i64) x3))], [some (.box [(.d .str x4), (.d (.int .i64) x5), (.d (.sl (.pair .str (.pair (.int .i64) (.pair .bool (.pair (.pair (.int .i64) (.pair (.int .i64) (.pair (.int .u64) (.pair .str .unit)))) .unit))))) x6), (.d (.sl (.pair .str (.pair (.sl (.pair (.int .i64) (.pair (.int .i64) (.pair (.int .u64) (.pair .str .unit))))) .unit))) x7)]), some (.own (.sl (.pair (.int .i64) (.pair (.int .i64) (.pair (.int .u64) (.pair .str .unit))))) false x8)] => (g x0 x1 x2 x3 x4 x5 x6 x7 x8).bind fun r => K ⟨.v (.one (.d (.sl (.sl T_api_Value)) r)), []⟩
    | _, _ => none
  legit := fun _ _ K _ h => by split at h; exact (legit1 K h :); simp at h
def sg3 (g : S3) : Seg where
  path := [1, 1, 4, 0, 1, 5, 4, 1, 0, 1, 1]
  prep := []
  keep := [1, 2, 3, 4, 9, 10, 42]
  F := fun tvs blks {β} K => match tvs, blks with
    | [.v (.one (.d .str x0)), .v (.one (.d .str x1)), .v (.one (.d (.int .i64) x2)), .v (.one (.ptr 0 0)), .v (.one (.own 1)), .v (.one (.d (.int .i64) x3)), .v (.one (.d .bool x4))], [some (.box [(.d .str x5), (.d (.int .i64) x6), (.d (.sl (.pair .str (.pair (.int .i64) (.pair .bool (.pair (.pair (.int .i64) (.pair (.int .i64) (.pair (.int .u64) (.pair .str .unit)))) .unit))))) x7), (.d (.sl (.pair .str (.pair (.sl (.pair (.int .i64) (.pair (.int .i64) (.pair (.int .u64) (.pair .str .unit))))) .unit))) x8)]), some (.own (.sl (.pair (.int .i64) (.pair (.int .i64) (.pair (.int .u64) (.pair .str .unit))))) false x9)] => (g x0 x1 x2 x3 x4 x5 x6 x7 x8 x9).bind fun r => K ⟨.v (.one (.d (.sl (.sl T_api_Value)) r)), []⟩
    | _, _ => none
  legit := fun _ _ K _ h => by split at h; exact (legit1 K h :); simp at h
def sg4 (g : S4) : Seg where
  path := [1, 1, 5, 4, 1, 0, 1, 1]
  prep := [.own 9 (.sl T_api_Value)]
  keep := [1, 2, 3, 4, 9, 10]
  F := fun tvs blks {β} K => match tvs, blks with
    | [.v (.one (.d .str x0)), .v (.one (.d .str x1)), .v (.one (.d (.int .i64) x2)), .v (.one (.ptr 0 0)), .v (.one (.own 1)), .v (.one (.d (.int .i64) x3))], [some (.box [(.d .str x4), (.d (.int .i64) x5), (.d (.sl (.pair .str (.pair (.int .i64) (.pair .bool (.pair (.pair (.int .i64) (.pair (.int .i64) (.pair (.int .u64) (.pair .str .unit)))) .unit))))) x6), (.d (.sl (.pair .str (.pair (.sl (.pair (.int .i64) (.pair (.int .i64) (.pair (.int .u64) (.pair .str .unit))))) .unit))) x7)]), some (.own (.sl (.pair (.int .i64) (.pair (.int .i64) (.pair (.int .u64) (.pair .str .unit))))) false x8)] => (g x0 x1 x2 x3 x4 x5 x6 x7 x8).bind fun r => K ⟨.v (.one (.d (.sl (.sl T_api_Value)) r)), []⟩
    | _, _ => none
  legit := fun _ _ K _ h => by split at h; exact (legit1 K h :); simp at h
noncomputable def env  (s0 : S0) (s1 : S1) (s2 : S2) (s3 : S3) (s4 : S4) : FEnv := { P := prog, ct := fun m => none, N := 53, body := f14.body.getD .skip, rvs := [.tmp 8], rts := [36], nin := 0, rmv := [], segs := [sg0 s0, sg1 s1, sg2 s2, sg3 s3, sg4 s4] }
def c {β : Type}  (s0 : S0) (s1 : S1) (s2 : S2) (s3 : S3) (s4 : S4) (a0 : ByteArray) (a1 : Int) (a2 : List D_api_Col) (a3 : List D_api_Line) (a4 : ByteArray) (a5 : ByteArray) (a6 : Int) (ret : ((List (List D_api_Value))) → Option β) : Option β := ((s0 a4 a5 a6 (0 : Int) a0 a1 a2 a3 []).bind ret)
def s0c {β : Type}  (s0 : S0) (s1 : S1) (s2 : S2) (s3 : S3) (s4 : S4) (x0 : ByteArray) (x1 : ByteArray) (x2 : Int) (x3 : Int) (x4 : ByteArray) (x5 : Int) (x6 : List D_api_Col) (x7 : List D_api_Line) (x8 : List (List D_api_Value)) (ret : ((List (List D_api_Value))) → Option β) : Option β := (bif (decide (x3 < ((List.length x7) : Int))) then ((s1 x0 x1 x2 x3 (decide (((List.length x8) : Int) < x2)) x4 x5 x6 x7 x8).bind ret) else ((s1 x0 x1 x2 x3 false x4 x5 x6 x7 x8).bind ret))
def s1c {β : Type}  (s0 : S0) (s1 : S1) (s2 : S2) (s3 : S3) (s4 : S4) (x0 : ByteArray) (x1 : ByteArray) (x2 : Int) (x3 : Int) (x4 : Bool) (x5 : ByteArray) (x6 : Int) (x7 : List D_api_Col) (x8 : List D_api_Line) (x9 : List (List D_api_Value)) (ret : ((List (List D_api_Value))) → Option β) : Option β := (bif x4 then ((s2 x0 x1 x2 x3 x5 x6 x7 x8 x9).bind ret) else (ret (x9)))
def s2c {β : Type}  (s0 : S0) (s1 : S1) (s2 : S2) (s3 : S3) (s4 : S4) (x0 : ByteArray) (x1 : ByteArray) (x2 : Int) (x3 : Int) (x4 : ByteArray) (x5 : Int) (x6 : List D_api_Col) (x7 : List D_api_Line) (x8 : List (List D_api_Value)) (ret : ((List (List D_api_Value))) → Option β) : Option β := (bif ((decide ((0 : Int) ≤ x3)) && (decide (x3 < ((List.length x7) : Int)))) then (bif (!(Op.bytesLess (ByteArray.toList (elem T_api_Line x7 x3).1) (ByteArray.toList x0))) then (bif ((ByteArray.toList x1) == (ByteArray.toList (ByteArray.mk (List.toArray [])))) then ((s3 x0 x1 x2 x3 true x4 x5 x6 x7 x8).bind ret) else ((s3 x0 x1 x2 x3 (Op.bytesLess (ByteArray.toList (elem T_api_Line x7 x3).1) (ByteArray.toList x1)) x4 x5 x6 x7 x8).bind ret)) else ((s3 x0 x1 x2 x3 false x4 x5 x6 x7 x8).bind ret)) else none)
def s3c {β : Type}  (s0 : S0) (s1 : S1) (s2 : S2) (s3 : S3) (s4 : S4) (x0 : ByteArray) (x1 : ByteArray) (x2 : Int) (x3 : Int) (x4 : Bool) (x5 : ByteArray) (x6 : Int) (x7 : List D_api_Col) (x8 : List D_api_Line) (x9 : List (List D_api_Value)) (ret : ((List (List D_api_Value))) → Option β) : Option β := (bif x4 then (bif ((decide ((0 : Int) ≤ x3)) && (decide (x3 < ((List.length x8) : Int)))) then (bif (decide ((((List.length x9) + (1 : Nat)) * (24 : Nat)) ≤ (35184372088832 : Nat))) then ((s4 x0 x1 x2 x3 x5 x6 x7 x8 (x9 ++ [(elem T_api_Line x8 x3).2.1])).bind ret) else none) else none) else ((s4 x0 x1 x2 x3 x5 x6 x7 x8 x9).bind ret))
def s4c {β : Type}  (s0 : S0) (s1 : S1) (s2 : S2) (s3 : S3) (s4 : S4) (x0 : ByteArray) (x1 : ByteArray) (x2 : Int) (x3 : Int) (x4 : ByteArray) (x5 : Int) (x6 : List D_api_Col) (x7 : List D_api_Line) (x8 : List (List D_api_Value)) (ret : ((List (List D_api_Value))) → Option β) : Option β := ((s0 x0 x1 x2 (IntKind.wrap IntKind.i64 (x3 + (1 : Int))) x4 x5 x6 x7 x8).bind ret)
theorem c_bind {β : Type}  {s0 : S0} {s1 : S1} {s2 : S2} {s3 : S3} {s4 : S4} {a0 : ByteArray} {a1 : Int} {a2 : List D_api_Col} {a3 : List D_api_Line} {a4 : ByteArray} {a5 : ByteArray} {a6 : Int} {ret : ((List (List D_api_Value))) → Option β} : c  s0 s1 s2 s3 s4 a0 a1 a2 a3 a4 a5 a6 ret = (c  s0 s1 s2 s3 s4 a0 a1 a2 a3 a4 a5 a6 some).bind ret := by
  simp only [c, bif_bind, sum_bind, oa, os, on, ofs]
theorem s0c_bind {β : Type}  {s0 : S0} {s1 : S1} {s2 : S2} {s3 : S3} {s4 : S4} {x0 : ByteArray} {x1 : ByteArray} {x2 : Int} {x3 : Int} {x4 : ByteArray} {x5 : Int} {x6 : List D_api_Col} {x7 : List D_api_Line} {x8 : List (List D_api_Value)} {ret : ((List (List D_api_Value))) → Option β} : s0c  s0 s1 s2 s3 s4 x0 x1 x2 x3 x4 x5 x6 x7 x8 ret = (s0c  s0 s1 s2 s3 s4 x0 x1 x2 x3 x4 x5 x6 x7 x8 some).bind ret := by
  simp only [s0c, bif_bind, sum_bind, oa, os, on, ofs]
theorem s1c_bind {β : Type}  {s0 : S0} {s1 : S1} {s2 : S2} {s3 : S3} {s4 : S4} {x0 : ByteArray} {x1 : ByteArray} {x2 : Int} {x3 : Int} {x4 : Bool} {x5 : ByteArray} {x6 : Int} {x7 : List D_api_Col} {x8 : List D_api_Line} {x9 : List (List D_api_Value)} {ret : ((List (List D_api_Value))) → Option β} : s1c  s0 s1 s2 s3 s4 x0 x1 x2 x3 x4 x5 x6 x7 x8 x9 ret = (s1c  s0 s1 s2 s3 s4 x0 x1 x2 x3 x4 x5 x6 x7 x8 x9 some).bind ret := by
  simp only [s1c, bif_bind, sum_bind, oa, os, on, ofs]
theorem s2c_bind {β : Type}  {s0 : S0} {s1 : S1} {s2 : S2} {s3 : S3} {s4 : S4} {x0 : ByteArray} {x1 : ByteArray} {x2 : Int} {x3 : Int} {x4 : ByteArray} {x5 : Int} {x6 : List D_api_Col} {x7 : List D_api_Line} {x8 : List (List D_api_Value)} {ret : ((List (List D_api_Value))) → Option β} : s2c  s0 s1 s2 s3 s4 x0 x1 x2 x3 x4 x5 x6 x7 x8 ret = (s2c  s0 s1 s2 s3 s4 x0 x1 x2 x3 x4 x5 x6 x7 x8 some).bind ret := by
  simp only [s2c, bif_bind, sum_bind, oa, os, on, ofs]
theorem s3c_bind {β : Type}  {s0 : S0} {s1 : S1} {s2 : S2} {s3 : S3} {s4 : S4} {x0 : ByteArray} {x1 : ByteArray} {x2 : Int} {x3 : Int} {x4 : Bool} {x5 : ByteArray} {x6 : Int} {x7 : List D_api_Col} {x8 : List D_api_Line} {x9 : List (List D_api_Value)} {ret : ((List (List D_api_Value))) → Option β} : s3c  s0 s1 s2 s3 s4 x0 x1 x2 x3 x4 x5 x6 x7 x8 x9 ret = (s3c  s0 s1 s2 s3 s4 x0 x1 x2 x3 x4 x5 x6 x7 x8 x9 some).bind ret := by
  simp only [s3c, bif_bind, sum_bind, oa, os, on, ofs]
theorem s4c_bind {β : Type}  {s0 : S0} {s1 : S1} {s2 : S2} {s3 : S3} {s4 : S4} {x0 : ByteArray} {x1 : ByteArray} {x2 : Int} {x3 : Int} {x4 : ByteArray} {x5 : Int} {x6 : List D_api_Col} {x7 : List D_api_Line} {x8 : List (List D_api_Value)} {ret : ((List (List D_api_Value))) → Option β} : s4c  s0 s1 s2 s3 s4 x0 x1 x2 x3 x4 x5 x6 x7 x8 ret = (s4c  s0 s1 s2 s3 s4 x0 x1 x2 x3 x4 x5 x6 x7 x8 some).bind ret := by
  simp only [s4c, bif_bind, sum_bind, oa, os, on, ofs]
theorem ev  {s0 : S0} {s1 : S1} {s2 : S2} {s3 : S3} {s4 : S4} {a0 : ByteArray} {a1 : Int} {a2 : List D_api_Col} {a3 : List D_api_Line} {a4 : ByteArray} {a5 : ByteArray} {a6 : Int} : evAt (env  s0 s1 s2 s3 s4) [] [0, 1, 2, 3] [.v (.agg [(.d .str a0), (.d (.int .i64) a1), (.d (.sl T_api_Col) a2), (.d (.sl T_api_Line) a3)]), .v (.one (.d .str a4)), .v (.one (.d .str a5)), .v (.one (.d (.int .i64) a6))] [] some = c  s0 s1 s2 s3 s4 a0 a1 a2 a3 a4 a5 a6 (fun r => some ⟨.v (.one (.d (.sl (.sl T_api_Value)) r)), []⟩) := by
  kernel_rfl
theorem s0_ev  {s0 : S0} {s1 : S1} {s2 : S2} {s3 : S3} {s4 : S4} {x0 : ByteArray} {x1 : ByteArray} {x2 : Int} {x3 : Int} {x4 : ByteArray} {x5 : Int} {x6 : List D_api_Col} {x7 : List D_api_Line} {x8 : List (List D_api_Value)} : evAt (env  s0 s1 s2 s3 s4) [4, 1, 0, 1, 1] [1, 2, 3, 4, 9, 10] [.v (.one (.d .str x0)), .v (.one (.d .str x1)), .v (.one (.d (.int .i64) x2)), .v (.one (.ptr 0 0)), .v (.one (.own 1)), .v (.one (.d (.int .i64) x3))] [some (.box [(.d .str x4), (.d (.int .i64) x5), (.d (.sl T_api_Col) x6), (.d (.sl T_api_Line) x7)]), some (.own (.sl T_api_Value) false x8)] some = s0c  s0 s1 s2 s3 s4 x0 x1 x2 x3 x4 x5 x6 x7 x8 (fun r => some ⟨.v (.one (.d (.sl (.sl T_api_Value)) r)), []⟩) := by
  kernel_rfl
theorem s1_ev  {s0 : S0} {s1 : S1} {s2 : S2} {s3 : S3} {s4 : S4} {x0 : ByteArray} {x1 : ByteArray} {x2 : Int} {x3 : Int} {x4 : Bool} {x5 : ByteArray} {x6 : Int} {x7 : List D_api_Col} {x8 : List D_api_Line} {x9 : List (List D_api_Value)} : evAt (env  s0 s1 s2 s3 s4) [1, 0, 5, 4, 1, 0, 1, 1] [1, 2, 3, 4, 9, 10, 22] [.v (.one (.d .str x0)), .v (.one (.d .str x1)), .v (.one (.d (.int .i64) x2)), .v (.one (.ptr 0 0)), .v (.one (.own 1)), .v (.one (.d (.int .i64) x3)), .v (.one (.d .bool x4))] [some (.box [(.d .str x5), (.d (.int .i64) x6), (.d (.sl T_api_Col) x7), (.d (.sl T_api_Line) x8)]), some (.own (.sl T_api_Value) false x9)] some = s1c  s0 s1 s2 s3 s4 x0 x1 x2 x3 x4 x5 x6 x7 x8 x9 (fun r => some ⟨.v (.one (.d (.sl (.sl T_api_Value)) r)), []⟩) := by
  kernel_rfl
theorem s2_ev  {s0 : S0} {s1 : S1} {s2 : S2} {s3 : S3} {s4 : S4} {x0 : ByteArray} {x1 : ByteArray} {x2 : Int} {x3 : Int} {x4 : ByteArray} {x5 : Int} {x6 : List D_api_Col} {x7 : List D_api_Line} {x8 : List (List D_api_Value)} : evAt (env  s0 s1 s2 s3 s4) [1, 5, 4, 1, 0, 1, 1] [1, 2, 3, 4, 9, 10] [.v (.one (.d .str x0)), .v (.one (.d .str x1)), .v (.one (.d (.int .i64) x2)), .v (.one (.ptr 0 0)), .v (.one (.own 1)), .v (.one (.d (.int .i64) x3))] [some (.box [(.d .str x4), (.d (.int .i64) x5), (.d (.sl T_api_Col) x6), (.d (.sl T_api_Line) x7)]), some (.own (.sl T_api_Value) false x8)] some = s2c  s0 s1 s2 s3 s4 x0 x1 x2 x3 x4 x5 x6 x7 x8 (fun r => some ⟨.v (.one (.d (.sl (.sl T_api_Value)) r)), []⟩) := by
  kernel_rfl
theorem s3_ev  {s0 : S0} {s1 : S1} {s2 : S2} {s3 : S3} {s4 : S4} {x0 : ByteArray} {x1 : ByteArray} {x2 : Int} {x3 : Int} {x4 : Bool} {x5 : ByteArray} {x6 : Int} {x7 : List D_api_Col} {x8 : List D_api_Line} {x9 : List (List D_api_Value)} : evAt (env  s0 s1 s2 s3 s4) [1, 1, 4, 0, 1, 5, 4, 1, 0, 1, 1] [1, 2, 3, 4, 9, 10, 42] [.v (.one (.d .str x0)), .v (.one (.d .str x1)), .v (.one (.d (.int .i64) x2)), .v (.one (.ptr 0 0)), .v (.one (.own 1)), .v (.one (.d (.int .i64) x3)), .v (.one (.d .bool x4))] [some (.box [(.d .str x5), (.d (.int .i64) x6), (.d (.sl T_api_Col) x7), (.d (.sl T_api_Line) x8)]), some (.own (.sl T_api_Value) false x9)] some = s3c  s0 s1 s2 s3 s4 x0 x1 x2 x3 x4 x5 x6 x7 x8 x9 (fun r => some ⟨.v (.one (.d (.sl (.sl T_api_Value)) r)), []⟩) := by
  kernel_rfl
theorem s4_ev  {s0 : S0} {s1 : S1} {s2 : S2} {s3 : S3} {s4 : S4} {x0 : ByteArray} {x1 : ByteArray} {x2 : Int} {x3 : Int} {x4 : ByteArray} {x5 : Int} {x6 : List D_api_Col} {x7 : List D_api_Line} {x8 : List (List D_api_Value)} : evAt (env  s0 s1 s2 s3 s4) [1, 1, 5, 4, 1, 0, 1, 1] [1, 2, 3, 4, 9, 10] [.v (.one (.d .str x0)), .v (.one (.d .str x1)), .v (.one (.d (.int .i64) x2)), .v (.one (.ptr 0 0)), .v (.one (.own 1)), .v (.one (.d (.int .i64) x3))] [some (.box [(.d .str x4), (.d (.int .i64) x5), (.d (.sl T_api_Col) x6), (.d (.sl T_api_Line) x7)]), some (.own (.sl T_api_Value) false x8)] some = s4c  s0 s1 s2 s3 s4 x0 x1 x2 x3 x4 x5 x6 x7 x8 (fun r => some ⟨.v (.one (.d (.sl (.sl T_api_Value)) r)), []⟩) := by
  kernel_rfl
mutual
def s0 : Nat → ByteArray → ByteArray → Int → Int → ByteArray → Int → (List D_api_Col) → (List D_api_Line) → (List (List D_api_Value)) → Option ((List (List D_api_Value)))
  | 0, _, _, _, _, _, _, _, _, _ => none
  | k + 1, x0, x1, x2, x3, x4, x5, x6, x7, x8 => s0c  (s0 k) (s1 k) (s2 k) (s3 k) (s4 k) x0 x1 x2 x3 x4 x5 x6 x7 x8 some
def s1 : Nat → ByteArray → ByteArray → Int → Int → Bool → ByteArray → Int → (List D_api_Col) → (List D_api_Line) → (List (List D_api_Value)) → Option ((List (List D_api_Value)))
  | 0, _, _, _, _, _, _, _, _, _, _ => none
  | k + 1, x0, x1, x2, x3, x4, x5, x6, x7, x8, x9 => s1c  (s0 k) (s1 k) (s2 k) (s3 k) (s4 k) x0 x1 x2 x3 x4 x5 x6 x7 x8 x9 some
def s2 : Nat → ByteArray → ByteArray → Int → Int → ByteArray → Int → (List D_api_Col) → (List D_api_Line) → (List (List D_api_Value)) → Option ((List (List D_api_Value)))
  | 0, _, _, _, _, _, _, _, _, _ => none
  | k + 1, x0, x1, x2, x3, x4, x5, x6, x7, x8 => s2c  (s0 k) (s1 k) (s2 k) (s3 k) (s4 k) x0 x1 x2 x3 x4 x5 x6 x7 x8 some
def s3 : Nat → ByteArray → ByteArray → Int → Int → Bool → ByteArray → Int → (List D_api_Col) → (List D_api_Line) → (List (List D_api_Value)) → Option ((List (List D_api_Value)))
  | 0, _, _, _, _, _, _, _, _, _, _ => none
  | k + 1, x0, x1, x2, x3, x4, x5, x6, x7, x8, x9 => s3c  (s0 k) (s1 k) (s2 k) (s3 k) (s4 k) x0 x1 x2 x3 x4 x5 x6 x7 x8 x9 some
def s4 : Nat → ByteArray → ByteArray → Int → Int → ByteArray → Int → (List D_api_Col) → (List D_api_Line) → (List (List D_api_Value)) → Option ((List (List D_api_Value)))
  | 0, _, _, _, _, _, _, _, _, _ => none
  | k + 1, x0, x1, x2, x3, x4, x5, x6, x7, x8 => s4c  (s0 k) (s1 k) (s2 k) (s3 k) (s4 k) x0 x1 x2 x3 x4 x5 x6 x7 x8 some
end
def f (k : Nat) (a0 : ByteArray) (a1 : Int) (a2 : List D_api_Col) (a3 : List D_api_Line) (a4 : ByteArray) (a5 : ByteArray) (a6 : Int) : Option ((List (List D_api_Value))) := c  (s0 k) (s1 k) (s2 k) (s3 k) (s4 k) a0 a1 a2 a3 a4 a5 a6 some
theorem is  {s0 : S0} {s1 : S1} {s2 : S2} {s3 : S3} {s4 : S4} : FnIs (env  s0 s1 s2 s3 s4) 14 f14 := ⟨func14, rfl, rfl, rfl, by decide⟩
theorem envok  {s0 : S0} {s1 : S1} {s2 : S2} {s3 : S3} {s4 : S4}  : EnvOK (env  s0 s1 s2 s3 s4).toEnv := by
  intro f c h
  simp only [env] at h
  simp at h
noncomputable abbrev E (k : Nat) : FEnv := env  (s0 k) (s1 k) (s2 k) (s3 k) (s4 k)
theorem hE (k : Nat) : EnvOK (E k).toEnv := envok 
theorem segs_ok : ∀ k, ∀ s ∈ (E k).segs, SegOK (E k) f14 s
  | 0 => by
    intro s hs
    simp only [E, env, List.mem_cons, List.not_mem_nil, or_false] at hs
    rcases hs with rfl | rfl | rfl | rfl | rfl
    · intro tvs blks res h; exfalso; simp only [sg0] at h; split at h <;> simp [s0] at h
    · intro tvs blks res h; exfalso; simp only [sg1] at h; split at h <;> simp [s1] at h
    · intro tvs blks res h; exfalso; simp only [sg2] at h; split at h <;> simp [s2] at h
    · intro tvs blks res h; exfalso; simp only [sg3] at h; split at h <;> simp [s3] at h
    · intro tvs blks res h; exfalso; simp only [sg4] at h; split at h <;> simp [s4] at h
  | k + 1 => by
    intro s hs
    simp only [E, env, List.mem_cons, List.not_mem_nil, or_false] at hs
    rcases hs with rfl | rfl | rfl | rfl | rfl
    · refine seg_of_ev (E := E k) (hE k) ⟨is.rvs⟩ (segs_ok k) ?_
      intro tvs blks res h
      simp only [sg0] at h
      split at h
      · exact (s0_ev.trans s0c_bind).trans h
      · simp at h
    · refine seg_of_ev (E := E k) (hE k) ⟨is.rvs⟩ (segs_ok k) ?_
      intro tvs blks res h
      simp only [sg1] at h
      split at h
      · exact (s1_ev.trans s1c_bind).trans h
      · simp at h
    · refine seg_of_ev (E := E k) (hE k) ⟨is.rvs⟩ (segs_ok k) ?_
      intro tvs blks res h
      simp only [sg2] at h
      split at h
      · exact (s2_ev.trans s2c_bind).trans h
      · simp at h
    · refine seg_of_ev (E := E k) (hE k) ⟨is.rvs⟩ (segs_ok k) ?_
      intro tvs blks res h
      simp only [sg3] at h
      split at h
      · exact (s3_ev.trans s3c_bind).trans h
      · simp at h
    · refine seg_of_ev (E := E k) (hE k) ⟨is.rvs⟩ (segs_ok k) ?_
      intro tvs blks res h
      simp only [sg4] at h
      split at h
      · exact (s4_ev.trans s4c_bind).trans h
      · simp at h
theorem ok (k : Nat) : CtOK prog 14 (ct (f k)) := by
  refine ct_of_ev (E := E k) is (hE k) (segs_ok k) rfl ?_
  intro tvs blks res h
  simp only [ct] at h
  split at h
  · exact (ev.trans c_bind).trans h
  · simp at h
end transomref12_Range
end Go.Proofs.YtdbbkmmillnaiaaDoor.Aev
