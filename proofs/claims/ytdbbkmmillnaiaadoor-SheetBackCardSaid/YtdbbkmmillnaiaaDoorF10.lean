/- By a program of this session (AEV): functions of the program as plain functions, and that the machine does what they say. -/
import Derived.Test.YtdbbkmmillnaiaaDoorTys
import Derived.Test.YtdbbkmmillnaiaaDoorProg
import Derived.Laws.Externs
import Derived.Lib.Bytealg
namespace Go.Proofs.YtdbbkmmillnaiaaDoor.Aev
set_option linter.unusedVariables false
set_option linter.unusedSimpArgs false
set_option maxRecDepth 100000
set_option maxHeartbeats 4000000
open Go Go.Proofs.Tryd
namespace transomref12_Merge
abbrev G : Type := ByteArray → Int → (List D_api_Col) → (List D_api_Line) → ByteArray → Int → (List D_api_Col) → (List D_api_Line) → Option ((List D_api_Line) × Int)
def ct (g : G) : Ct where
  nin := 0
  mv := []
  F := fun tvs blks {β} K => match tvs, blks with
    | [.v (.agg [(.d .str a0), (.d (.int .i64) a1), (.d (.sl (.pair .str (.pair (.int .i64) (.pair .bool (.pair (.pair (.int .i64) (.pair (.int .i64) (.pair (.int .u64) (.pair .str .unit)))) .unit))))) a2), (.d (.sl (.pair .str (.pair (.sl (.pair (.int .i64) (.pair (.int .i64) (.pair (.int .u64) (.pair .str .unit))))) .unit))) a3)]), .v (.agg [(.d .str a4), (.d (.int .i64) a5), (.d (.sl (.pair .str (.pair (.int .i64) (.pair .bool (.pair (.pair (.int .i64) (.pair (.int .i64) (.pair (.int .u64) (.pair .str .unit)))) .unit))))) a6), (.d (.sl (.pair .str (.pair (.sl (.pair (.int .i64) (.pair (.int .i64) (.pair (.int .u64) (.pair .str .unit))))) .unit))) a7)])], [] => (g a0 a1 a2 a3 a4 a5 a6 a7).bind fun r => K ⟨.tup [(.one (.d (.sl T_api_Line) r.1)), (.one (.d (.int .i64) r.2))], []⟩
    | _, _ => none
  legit := fun _ _ K _ h => by split at h; exact (legit1 K h :); simp at h
abbrev S0 : Type := Int → Int → ByteArray → Int → (List D_api_Col) → (List D_api_Line) → ByteArray → Int → (List D_api_Col) → (List D_api_Line) → (List D_api_Line) → Option ((List D_api_Line) × Int)
abbrev S1 : Type := Int → Int → ByteArray → Int → (List D_api_Col) → (List D_api_Line) → ByteArray → Int → (List D_api_Col) → (List D_api_Line) → (List D_api_Line) → Option ((List D_api_Line) × Int)
abbrev S2 : Type := Int → Int → Bool → ByteArray → Int → (List D_api_Col) → (List D_api_Line) → ByteArray → Int → (List D_api_Col) → (List D_api_Line) → (List D_api_Line) → Option ((List D_api_Line) × Int)
abbrev S3 : Type := Int → Int → ByteArray → Int → (List D_api_Col) → (List D_api_Line) → ByteArray → Int → (List D_api_Col) → (List D_api_Line) → (List D_api_Line) → Option ((List D_api_Line) × Int)
abbrev S4 : Type := Int → Int → Bool → ByteArray → Int → (List D_api_Col) → (List D_api_Line) → ByteArray → Int → (List D_api_Col) → (List D_api_Line) → (List D_api_Line) → Option ((List D_api_Line) × Int)
abbrev S5 : Type := Int → Int → ByteArray → Int → (List D_api_Col) → (List D_api_Line) → ByteArray → Int → (List D_api_Col) → (List D_api_Line) → (List D_api_Line) → Option ((List D_api_Line) × Int)
abbrev S6 : Type := Int → Int → ByteArray → Int → (List D_api_Col) → (List D_api_Line) → ByteArray → Int → (List D_api_Col) → (List D_api_Line) → (List D_api_Line) → Option ((List D_api_Line) × Int)
def sg0 (g : S0) : Seg where
  path := [4, 1, 0, 1, 1, 1]
  prep := [.own 6 T_api_Line]
  keep := [2, 3, 6, 7, 8]
  F := fun tvs blks {β} K => match tvs, blks with
    | [.v (.one (.ptr 0 0)), .v (.one (.ptr 1 0)), .v (.one (.own 2)), .v (.one (.d (.int .i64) x0)), .v (.one (.d (.int .i64) x1))], [some (.box [(.d .str x2), (.d (.int .i64) x3), (.d (.sl (.pair .str (.pair (.int .i64) (.pair .bool (.pair (.pair (.int .i64) (.pair (.int .i64) (.pair (.int .u64) (.pair .str .unit)))) .unit))))) x4), (.d (.sl (.pair .str (.pair (.sl (.pair (.int .i64) (.pair (.int .i64) (.pair (.int .u64) (.pair .str .unit))))) .unit))) x5)]), some (.box [(.d .str x6), (.d (.int .i64) x7), (.d (.sl (.pair .str (.pair (.int .i64) (.pair .bool (.pair (.pair (.int .i64) (.pair (.int .i64) (.pair (.int .u64) (.pair .str .unit)))) .unit))))) x8), (.d (.sl (.pair .str (.pair (.sl (.pair (.int .i64) (.pair (.int .i64) (.pair (.int .u64) (.pair .str .unit))))) .unit))) x9)]), some (.own (.pair .str (.pair (.sl (.pair (.int .i64) (.pair (.int .i64) (.pair (.int .u64) (.pair .str .unit))))) .unit)) false x10)] => (g x0 x1 x2 x3 x4 x5 x6 x7 x8 x9 x10).bind fun r => K ⟨.tup [(.one (.d (.sl T_api_Line) r.1)), (.one (.d (.int .i64) r.2))], []⟩
    | _, _ => none
  legit := fun _ _ K _ h => by split at h; exact (legit1 K h :); simp at h
def sg1 (g : S1) : Seg where
  path := [4, 0, 4, 0, 1, 5, 4, 1, 0, 1, 1, 1]
  prep := [.own 6 T_api_Line]
  keep := [2, 3, 6, 7, 8]
  F := fun tvs blks {β} K => match tvs, blks with
    | [.v (.one (.ptr 0 0)), .v (.one (.ptr 1 0)), .v (.one (.own 2)), .v (.one (.d (.int .i64) x0)), .v (.one (.d (.int .i64) x1))], [some (.box [(.d .str x2), (.d (.int .i64) x3), (.d (.sl (.pair .str (.pair (.int .i64) (.pair .bool (.pair (.pair (.int .i64) (.pair (.int .i64) (.pair (.int .u64) (.pair .str .unit)))) .unit))))) x4), (.d (.sl (.pair .str (.pair (.sl (.pair (.int .i64) (.pair (.int .i64) (.pair (.int .u64) (.pair .str .unit))))) .unit))) x5)]), some (.box [(.d .str x6), (.d (.int .i64) x7), (.d (.sl (.pair .str (.pair (.int .i64) (.pair .bool (.pair (.pair (.int .i64) (.pair (.int .i64) (.pair (.int .u64) (.pair .str .unit)))) .unit))))) x8), (.d (.sl (.pair .str (.pair (.sl (.pair (.int .i64) (.pair (.int .i64) (.pair (.int .u64) (.pair .str .unit))))) .unit))) x9)]), some (.own (.pair .str (.pair (.sl (.pair (.int .i64) (.pair (.int .i64) (.pair (.int .u64) (.pair .str .unit))))) .unit)) false x10)] => (g x0 x1 x2 x3 x4 x5 x6 x7 x8 x9 x10).bind fun r => K ⟨.tup [(.one (.d (.sl T_api_Line) r.1)), (.one (.d (.int .i64) r.2))], []⟩
    | _, _ => none
  legit := fun _ _ K _ h => by split at h; exact (legit1 K h :); simp at h
def sg2 (g : S2) : Seg where
  path := [1, 0, 5, 4, 0, 4, 0, 1, 5, 4, 1, 0, 1, 1, 1]
  prep := []
  keep := [2, 3, 6, 7, 8, 35]
  F := fun tvs blks {β} K => match tvs, blks with
    | [.v (.one (.ptr 0 0)), .v (.one (.ptr 1 0)), .v (.one (.own 2)), .v (.one (.d (.int .i64) x0)), .v (.one (.d (.int .i64) x1)), .v (.one (.d .bool x2))], [some (.box [(.d .str x3), (.d (.int .i64) x4), (.d (.sl (.pair .str (.pair (.int .i64) (.pair .bool (.pair (.pair (.int .i64) (.pair (.int .i64) (.pair (.int .u64) (.pair .str .unit)))) .unit))))) x5), (.d (.sl (.pair .str (.pair (.sl (.pair (.int .i64) (.pair (.int .i64) (.pair (.int .u64) (.pair .str .unit))))) .unit))) x6)]), some (.box [(.d .str x7), (.d (.int .i64) x8), (.d (.sl (.pair .str (.pair (.int .i64) (.pair .bool (.pair (.pair (.int .i64) (.pair (.int .i64) (.pair (.int .u64) (.pair .str .unit)))) .unit))))) x9), (.d (.sl (.pair .str (.pair (.sl (.pair (.int .i64) (.pair (.int .i64) (.pair (.int .u64) (.pair .str .unit))))) .unit))) x10)]), some (.own (.pair .str (.pair (.sl (.pair (.int .i64) (.pair (.int .i64) (.pair (.int .u64) (.pair .str .unit))))) .unit)) false x11)] => (g x0 x1 x2 x3 x4 x5 x6 x7 x8 x9 x10 x11).bind fun r => K ⟨.tup [(.one (.d (.sl T_api_Line) r.1)), (.one (.d (.int .i64) r.2))], []⟩
    | _, _ => none
  legit := fun _ _ K _ h => by split at h; exact (legit1 K h :); simp at h
def sg3 (g : S3) : Seg where
  path := [1, 5, 4, 0, 4, 0, 1, 5, 4, 1, 0, 1, 1, 1]
  prep := []
  keep := [2, 3, 6, 7, 8]
  F := fun tvs blks {β} K => match tvs, blks with
    | [.v (.one (.ptr 0 0)), .v (.one (.ptr 1 0)), .v (.one (.own 2)), .v (.one (.d (.int .i64) x0)), .v (.one (.d (.int .i64) x1))], [some (.box [(.d .str x2), (.d (.int .i64) x3), (.d (.sl (.pair .str (.pair (.int .i64) (.pair .bool (.pair (.pair (.int .i64) (.pair (.int .i64) (.pair (.int .u64) (.pair .str .unit)))) .unit))))) x4), (.d (.sl (.pair .str (.pair (.sl (.pair (.int .i64) (.pair (.int .i64) (.pair (.int .u64) (.pair .str .unit))))) .unit))) x5)]), some (.box [(.d .str x6), (.d (.int .i64) x7), (.d (.sl (.pair .str (.pair (.int .i64) (.pair .bool (.pair (.pair (.int .i64) (.pair (.int .i64) (.pair (.int .u64) (.pair .str .unit)))) .unit))))) x8), (.d (.sl (.pair .str (.pair (.sl (.pair (.int .i64) (.pair (.int .i64) (.pair (.int .u64) (.pair .str .unit))))) .unit))) x9)]), some (.own (.pair .str (.pair (.sl (.pair (.int .i64) (.pair (.int .i64) (.pair (.int .u64) (.pair .str .unit))))) .unit)) false x10)] => (g x0 x1 x2 x3 x4 x5 x6 x7 x8 x9 x10).bind fun r => K ⟨.tup [(.one (.d (.sl T_api_Line) r.1)), (.one (.d (.int .i64) r.2))], []⟩
    | _, _ => none
  legit := fun _ _ K _ h => by split at h; exact (legit1 K h :); simp at h
def sg4 (g : S4) : Seg where
  path := [1, 0, 1, 4, 0, 1, 5, 4, 1, 0, 1, 1, 1]
  prep := []
  keep := [2, 3, 6, 7, 8, 65]
  F := fun tvs blks {β} K => match tvs, blks with
    | [.v (.one (.ptr 0 0)), .v (.one (.ptr 1 0)), .v (.one (.own 2)), .v (.one (.d (.int .i64) x0)), .v (.one (.d (.int .i64) x1)), .v (.one (.d .bool x2))], [some (.box [(.d .str x3), (.d (.int .i64) x4), (.d (.sl (.pair .str (.pair (.int .i64) (.pair .bool (.pair (.pair (.int .i64) (.pair (.int .i64) (.pair (.int .u64) (.pair .str .unit)))) .unit))))) x5), (.d (.sl (.pair .str (.pair (.sl (.pair (.int .i64) (.pair (.int .i64) (.pair (.int .u64) (.pair .str .unit))))) .unit))) x6)]), some (.box [(.d .str x7), (.d (.int .i64) x8), (.d (.sl (.pair .str (.pair (.int .i64) (.pair .bool (.pair (.pair (.int .i64) (.pair (.int .i64) (.pair (.int .u64) (.pair .str .unit)))) .unit))))) x9), (.d (.sl (.pair .str (.pair (.sl (.pair (.int .i64) (.pair (.int .i64) (.pair (.int .u64) (.pair .str .unit))))) .unit))) x10)]), some (.own (.pair .str (.pair (.sl (.pair (.int .i64) (.pair (.int .i64) (.pair (.int .u64) (.pair .str .unit))))) .unit)) false x11)] => (g x0 x1 x2 x3 x4 x5 x6 x7 x8 x9 x10 x11).bind fun r => K ⟨.tup [(.one (.d (.sl T_api_Line) r.1)), (.one (.d (.int .i64) r.2))], []⟩
    | _, _ => none
  legit := fun _ _ K _ h => by split at h; exact (legit1 K h :); simp at h
def sg5 (g : S5) : Seg where
  path := [1, 1, 4, 0, 1, 5, 4, 1, 0, 1, 1, 1]
  prep := []
  keep := [2, 3, 6, 7, 8]
  F := fun tvs blks {β} K => match tvs, blks with
    | [.v (.one (.ptr 0 0)), .v (.one (.ptr 1 0)), .v (.one (.own 2)), .v (.one (.d (.int .i64) x0)), .v (.one (.d (.int .i64) x1))], [some (.box [(.d .str x2), (.d (.int .i64) x3), (.d (.sl (.pair .str (.pair (.int .i64) (.pair .bool (.pair (.pair (.int .i64) (.pair (.int .i64) (.pair (.int .u64) (.pair .str .unit)))) .unit))))) x4), (.d (.sl (.pair .str (.pair (.sl (.pair (.int .i64) (.pair (.int .i64) (.pair (.int .u64) (.pair .str .unit))))) .unit))) x5)]), some (.box [(.d .str x6), (.d (.int .i64) x7), (.d (.sl (.pair .str (.pair (.int .i64) (.pair .bool (.pair (.pair (.int .i64) (.pair (.int .i64) (.pair (.int .u64) (.pair .str .unit)))) .unit))))) x8), (.d (.sl (.pair .str (.pair (.sl (.pair (.int .i64) (.pair (.int .i64) (.pair (.int .u64) (.pair .str .unit))))) .unit))) x9)]), some (.own (.pair .str (.pair (.sl (.pair (.int .i64) (.pair (.int .i64) (.pair (.int .u64) (.pair .str .unit))))) .unit)) false x10)] => (g x0 x1 x2 x3 x4 x5 x6 x7 x8 x9 x10).bind fun r => K ⟨.tup [(.one (.d (.sl T_api_Line) r.1)), (.one (.d (.int .i64) r.2))], []⟩
    | _, _ => none
  legit := fun _ _ K _ h => by split at h; exact (legit1 K h :); simp at h
def sg6 (g : S6) : Seg where
  path := [1, 1, 5, 4, 1, 0, 1, 1, 1]
  prep := []
  keep := [2, 3, 6, 7, 8]
  F := fun tvs blks {β} K => match tvs, blks with
    | [.v (.one (.ptr 0 0)), .v (.one (.ptr 1 0)), .v (.one (.own 2)), .v (.one (.d (.int .i64) x0)), .v (.one (.d (.int .i64) x1))], [some (.box [(.d .str x2), (.d (.int .i64) x3), (.d (.sl (.pair .str (.pair (.int .i64) (.pair .bool (.pair (.pair (.int .i64) (.pair (.int .i64) (.pair (.int .u64) (.pair .str .unit)))) .unit))))) x4), (.d (.sl (.pair .str (.pair (.sl (.pair (.int .i64) (.pair (.int .i64) (.pair (.int .u64) (.pair .str .unit))))) .unit))) x5)]), some (.box [(.d .str x6), (.d (.int .i64) x7), (.d (.sl (.pair .str (.pair (.int .i64) (.pair .bool (.pair (.pair (.int .i64) (.pair (.int .i64) (.pair (.int .u64) (.pair .str .unit)))) .unit))))) x8), (.d (.sl (.pair .str (.pair (.sl (.pair (.int .i64) (.pair (.int .i64) (.pair (.int .u64) (.pair .str .unit))))) .unit))) x9)]), some (.own (.pair .str (.pair (.sl (.pair (.int .i64) (.pair (.int .i64) (.pair (.int .u64) (.pair .str .unit))))) .unit)) false x10)] => (g x0 x1 x2 x3 x4 x5 x6 x7 x8 x9 x10).bind fun r => K ⟨.tup [(.one (.d (.sl T_api_Line) r.1)), (.one (.d (.int .i64) r.2))], []⟩
    | _, _ => none
  legit := fun _ _ K _ h => by split at h; exact (legit1 K h :); simp at h
noncomputable def env  (s0 : S0) (s1 : S1) (s2 : S2) (s3 : S3) (s4 : S4) (s5 : S5) (s6 : S6) : FEnv := { P := prog, ct := fun m => none, N := 81, body := f16.body.getD .skip, rvs := [.tmp 4, .tmp 5], rts := [25, 3], nin := 0, rmv := [], segs := [sg0 s0, sg1 s1, sg2 s2, sg3 s3, sg4 s4, sg5 s5, sg6 s6] }
def c {β : Type}  (s0 : S0) (s1 : S1) (s2 : S2) (s3 : S3) (s4 : S4) (s5 : S5) (s6 : S6) (a0 : ByteArray) (a1 : Int) (a2 : List D_api_Col) (a3 : List D_api_Line) (a4 : ByteArray) (a5 : Int) (a6 : List D_api_Col) (a7 : List D_api_Line) (ret : ((List D_api_Line) × Int) → Option β) : Option β := ((s0 (0 : Int) (0 : Int) a0 a1 a2 a3 a4 a5 a6 a7 []).bind ret)
def s0c {β : Type}  (s0 : S0) (s1 : S1) (s2 : S2) (s3 : S3) (s4 : S4) (s5 : S5) (s6 : S6) (x0 : Int) (x1 : Int) (x2 : ByteArray) (x3 : Int) (x4 : List D_api_Col) (x5 : List D_api_Line) (x6 : ByteArray) (x7 : Int) (x8 : List D_api_Col) (x9 : List D_api_Line) (x10 : List D_api_Line) (ret : ((List D_api_Line) × Int) → Option β) : Option β := (bif (decide (x1 < ((List.length x9) : Int))) then ((s1 x0 x1 x2 x3 x4 x5 x6 x7 x8 x9 x10).bind ret) else (bif (((decide ((0 : Int) ≤ x0)) && (decide (x0 ≤ ((List.length x5) : Int)))) && (decide (((List.length x5) : Int) ≤ ((List.length x5) : Int)))) then (bif (decide ((((List.length x10) + (List.length (List.take ((Int.toNat ((List.length x5) : Int)) - (Int.toNat x0)) (List.drop (Int.toNat x0) x5)))) * (40 : Nat)) ≤ (35184372088832 : Nat))) then (ret ((x10 ++ (List.take ((Int.toNat ((List.length x5) : Int)) - (Int.toNat x0)) (List.drop (Int.toNat x0) x5))), (0 : Int))) else none) else none))
def s1c {β : Type}  (s0 : S0) (s1 : S1) (s2 : S2) (s3 : S3) (s4 : S4) (s5 : S5) (s6 : S6) (x0 : Int) (x1 : Int) (x2 : ByteArray) (x3 : Int) (x4 : List D_api_Col) (x5 : List D_api_Line) (x6 : ByteArray) (x7 : Int) (x8 : List D_api_Col) (x9 : List D_api_Line) (x10 : List D_api_Line) (ret : ((List D_api_Line) × Int) → Option β) : Option β := (bif (decide (x0 < ((List.length x5) : Int))) then (bif ((decide ((0 : Int) ≤ x0)) && (decide (x0 < ((List.length x5) : Int)))) then (bif ((decide ((0 : Int) ≤ x1)) && (decide (x1 < ((List.length x9) : Int)))) then ((s2 x0 x1 (Op.bytesLess (ByteArray.toList (elem T_api_Line x5 x0).1) (ByteArray.toList (elem T_api_Line x9 x1).1)) x2 x3 x4 x5 x6 x7 x8 x9 x10).bind ret) else none) else none) else ((s2 x0 x1 false x2 x3 x4 x5 x6 x7 x8 x9 x10).bind ret))
def s2c {β : Type}  (s0 : S0) (s1 : S1) (s2 : S2) (s3 : S3) (s4 : S4) (s5 : S5) (s6 : S6) (x0 : Int) (x1 : Int) (x2 : Bool) (x3 : ByteArray) (x4 : Int) (x5 : List D_api_Col) (x6 : List D_api_Line) (x7 : ByteArray) (x8 : Int) (x9 : List D_api_Col) (x10 : List D_api_Line) (x11 : List D_api_Line) (ret : ((List D_api_Line) × Int) → Option β) : Option β := (bif x2 then ((s3 x0 x1 x3 x4 x5 x6 x7 x8 x9 x10 x11).bind ret) else (bif (decide (x0 < ((List.length x6) : Int))) then (bif ((decide ((0 : Int) ≤ x0)) && (decide (x0 < ((List.length x6) : Int)))) then (bif ((decide ((0 : Int) ≤ x1)) && (decide (x1 < ((List.length x10) : Int)))) then ((s4 x0 x1 ((ByteArray.toList (elem T_api_Line x6 x0).1) == (ByteArray.toList (elem T_api_Line x10 x1).1)) x3 x4 x5 x6 x7 x8 x9 x10 x11).bind ret) else none) else none) else ((s4 x0 x1 false x3 x4 x5 x6 x7 x8 x9 x10 x11).bind ret)))
def s3c {β : Type}  (s0 : S0) (s1 : S1) (s2 : S2) (s3 : S3) (s4 : S4) (s5 : S5) (s6 : S6) (x0 : Int) (x1 : Int) (x2 : ByteArray) (x3 : Int) (x4 : List D_api_Col) (x5 : List D_api_Line) (x6 : ByteArray) (x7 : Int) (x8 : List D_api_Col) (x9 : List D_api_Line) (x10 : List D_api_Line) (ret : ((List D_api_Line) × Int) → Option β) : Option β := (bif ((decide ((0 : Int) ≤ x0)) && (decide (x0 < ((List.length x5) : Int)))) then (bif (decide ((((List.length x10) + (1 : Nat)) * (40 : Nat)) ≤ (35184372088832 : Nat))) then ((s1 (IntKind.wrap IntKind.i64 (x0 + (1 : Int))) x1 x2 x3 x4 x5 x6 x7 x8 x9 (x10 ++ [((elem T_api_Line x5 x0).1, ((elem T_api_Line x5 x0).2.1, ()))])).bind ret) else none) else none)
def s4c {β : Type}  (s0 : S0) (s1 : S1) (s2 : S2) (s3 : S3) (s4 : S4) (s5 : S5) (s6 : S6) (x0 : Int) (x1 : Int) (x2 : Bool) (x3 : ByteArray) (x4 : Int) (x5 : List D_api_Col) (x6 : List D_api_Line) (x7 : ByteArray) (x8 : Int) (x9 : List D_api_Col) (x10 : List D_api_Line) (x11 : List D_api_Line) (ret : ((List D_api_Line) × Int) → Option β) : Option β := (bif x2 then (ret ([], (15 : Int))) else ((s5 x0 x1 x3 x4 x5 x6 x7 x8 x9 x10 x11).bind ret))
def s5c {β : Type}  (s0 : S0) (s1 : S1) (s2 : S2) (s3 : S3) (s4 : S4) (s5 : S5) (s6 : S6) (x0 : Int) (x1 : Int) (x2 : ByteArray) (x3 : Int) (x4 : List D_api_Col) (x5 : List D_api_Line) (x6 : ByteArray) (x7 : Int) (x8 : List D_api_Col) (x9 : List D_api_Line) (x10 : List D_api_Line) (ret : ((List D_api_Line) × Int) → Option β) : Option β := (bif ((decide ((0 : Int) ≤ x1)) && (decide (x1 < ((List.length x9) : Int)))) then (bif (decide ((((List.length x10) + (1 : Nat)) * (40 : Nat)) ≤ (35184372088832 : Nat))) then ((s6 x0 x1 x2 x3 x4 x5 x6 x7 x8 x9 (x10 ++ [((elem T_api_Line x9 x1).1, ((elem T_api_Line x9 x1).2.1, ()))])).bind ret) else none) else none)
def s6c {β : Type}  (s0 : S0) (s1 : S1) (s2 : S2) (s3 : S3) (s4 : S4) (s5 : S5) (s6 : S6) (x0 : Int) (x1 : Int) (x2 : ByteArray) (x3 : Int) (x4 : List D_api_Col) (x5 : List D_api_Line) (x6 : ByteArray) (x7 : Int) (x8 : List D_api_Col) (x9 : List D_api_Line) (x10 : List D_api_Line) (ret : ((List D_api_Line) × Int) → Option β) : Option β := ((s0 x0 (IntKind.wrap IntKind.i64 (x1 + (1 : Int))) x2 x3 x4 x5 x6 x7 x8 x9 x10).bind ret)
theorem c_bind {β : Type}  {s0 : S0} {s1 : S1} {s2 : S2} {s3 : S3} {s4 : S4} {s5 : S5} {s6 : S6} {a0 : ByteArray} {a1 : Int} {a2 : List D_api_Col} {a3 : List D_api_Line} {a4 : ByteArray} {a5 : Int} {a6 : List D_api_Col} {a7 : List D_api_Line} {ret : ((List D_api_Line) × Int) → Option β} : c  s0 s1 s2 s3 s4 s5 s6 a0 a1 a2 a3 a4 a5 a6 a7 ret = (c  s0 s1 s2 s3 s4 s5 s6 a0 a1 a2 a3 a4 a5 a6 a7 some).bind ret := by
  simp only [c, bif_bind, sum_bind, oa, os, on, ofs]
theorem s0c_bind {β : Type}  {s0 : S0} {s1 : S1} {s2 : S2} {s3 : S3} {s4 : S4} {s5 : S5} {s6 : S6} {x0 : Int} {x1 : Int} {x2 : ByteArray} {x3 : Int} {x4 : List D_api_Col} {x5 : List D_api_Line} {x6 : ByteArray} {x7 : Int} {x8 : List D_api_Col} {x9 : List D_api_Line} {x10 : List D_api_Line} {ret : ((List D_api_Line) × Int) → Option β} : s0c  s0 s1 s2 s3 s4 s5 s6 x0 x1 x2 x3 x4 x5 x6 x7 x8 x9 x10 ret = (s0c  s0 s1 s2 s3 s4 s5 s6 x0 x1 x2 x3 x4 x5 x6 x7 x8 x9 x10 some).bind ret := by
  simp only [s0c, bif_bind, sum_bind, oa, os, on, ofs]
theorem s1c_bind {β : Type}  {s0 : S0} {s1 : S1} {s2 : S2} {s3 : S3} {s4 : S4} {s5 : S5} {s6 : S6} {x0 : Int} {x1 : Int} {x2 : ByteArray} {x3 : Int} {x4 : List D_api_Col} {x5 : List D_api_Line} {x6 : ByteArray} {x7 : Int} {x8 : List D_api_Col} {x9 : List D_api_Line} {x10 : List D_api_Line} {ret : ((List D_api_Line) × Int) → Option β} : s1c  s0 s1 s2 s3 s4 s5 s6 x0 x1 x2 x3 x4 x5 x6 x7 x8 x9 x10 ret = (s1c  s0 s1 s2 s3 s4 s5 s6 x0 x1 x2 x3 x4 x5 x6 x7 x8 x9 x10 some).bind ret := by
  simp only [s1c, bif_bind, sum_bind, oa, os, on, ofs]
theorem s2c_bind {β : Type}  {s0 : S0} {s1 : S1} {s2 : S2} {s3 : S3} {s4 : S4} {s5 : S5} {s6 : S6} {x0 : Int} {x1 : Int} {x2 : Bool} {x3 : ByteArray} {x4 : Int} {x5 : List D_api_Col} {x6 : List D_api_Line} {x7 : ByteArray} {x8 : Int} {x9 : List D_api_Col} {x10 : List D_api_Line} {x11 : List D_api_Line} {ret : ((List D_api_Line) × Int) → Option β} : s2c  s0 s1 s2 s3 s4 s5 s6 x0 x1 x2 x3 x4 x5 x6 x7 x8 x9 x10 x11 ret = (s2c  s0 s1 s2 s3 s4 s5 s6 x0 x1 x2 x3 x4 x5 x6 x7 x8 x9 x10 x11 some).bind ret := by
  simp only [s2c, bif_bind, sum_bind, oa, os, on, ofs]
theorem s3c_bind {β : Type}  {s0 : S0} {s1 : S1} {s2 : S2} {s3 : S3} {s4 : S4} {s5 : S5} {s6 : S6} {x0 : Int} {x1 : Int} {x2 : ByteArray} {x3 : Int} {x4 : List D_api_Col} {x5 : List D_api_Line} {x6 : ByteArray} {x7 : Int} {x8 : List D_api_Col} {x9 : List D_api_Line} {x10 : List D_api_Line} {ret : ((List D_api_Line) × Int) → Option β} : s3c  s0 s1 s2 s3 s4 s5 s6 x0 x1 x2 x3 x4 x5 x6 x7 x8 x9 x10 ret = (s3c  s0 s1 s2 s3 s4 s5 s6 x0 x1 x2 x3 x4 x5 x6 x7 x8 x9 x10 some).bind ret := by
  simp only [s3c, bif_bind, sum_bind, oa, os, on, ofs]
theorem s4c_bind {β : Type}  {s0 : S0} {s1 : S1} {s2 : S2} {s3 : S3} {s4 : S4} {s5 : S5} {s6 : S6} {x0 : Int} {x1 : Int} {x2 : Bool} {x3 : ByteArray} {x4 : Int} {x5 : List D_api_Col} {x6 : List D_api_Line} {x7 : ByteArray} {x8 : Int} {x9 : List D_api_Col} {x10 : List D_api_Line} {x11 : List D_api_Line} {ret : ((List D_api_Line) × Int) → Option β} : s4c  s0 s1 s2 s3 s4 s5 s6 x0 x1 x2 x3 x4 x5 x6 x7 x8 x9 x10 x11 ret = (s4c  s0 s1 s2 s3 s4 s5 s6 x0 x1 x2 x3 x4 x5 x6 x7 x8 x9 x10 x11 some).bind ret := by
  simp only [s4c, bif_bind, sum_bind, oa, os, on, ofs]
theorem s5c_bind {β : Type}  {s0 : S0} {s1 : S1} {s2 : S2} {s3 : S3} {s4 : S4} {s5 : S5} {s6 : S6} {x0 : Int} {x1 : Int} {x2 : ByteArray} {x3 : Int} {x4 : List D_api_Col} {x5 : List D_api_Line} {x6 : ByteArray} {x7 : Int} {x8 : List D_api_Col} {x9 : List D_api_Line} {x10 : List D_api_Line} {ret : ((List D_api_Line) × Int) → Option β} : s5c  s0 s1 s2 s3 s4 s5 s6 x0 x1 x2 x3 x4 x5 x6 x7 x8 x9 x10 ret = (s5c  s0 s1 s2 s3 s4 s5 s6 x0 x1 x2 x3 x4 x5 x6 x7 x8 x9 x10 some).bind ret := by
  simp only [s5c, bif_bind, sum_bind, oa, os, on, ofs]
theorem s6c_bind {β : Type}  {s0 : S0} {s1 : S1} {s2 : S2} {s3 : S3} {s4 : S4} {s5 : S5} {s6 : S6} {x0 : Int} {x1 : Int} {x2 : ByteArray} {x3 : Int} {x4 : List D_api_Col} {x5 : List D_api_Line} {x6 : ByteArray} {x7 : Int} {x8 : List D_api_Col} {x9 : List D_api_Line} {x10 : List D_api_Line} {ret : ((List D_api_Line) × Int) → Option β} : s6c  s0 s1 s2 s3 s4 s5 s6 x0 x1 x2 x3 x4 x5 x6 x7 x8 x9 x10 ret = (s6c  s0 s1 s2 s3 s4 s5 s6 x0 x1 x2 x3 x4 x5 x6 x7 x8 x9 x10 some).bind ret := by
  simp only [s6c, bif_bind, sum_bind, oa, os, on, ofs]
theorem ev  {s0 : S0} {s1 : S1} {s2 : S2} {s3 : S3} {s4 : S4} {s5 : S5} {s6 : S6} {a0 : ByteArray} {a1 : Int} {a2 : List D_api_Col} {a3 : List D_api_Line} {a4 : ByteArray} {a5 : Int} {a6 : List D_api_Col} {a7 : List D_api_Line} : evAt (env  s0 s1 s2 s3 s4 s5 s6) [] [0, 1] [.v (.agg [(.d .str a0), (.d (.int .i64) a1), (.d (.sl T_api_Col) a2), (.d (.sl T_api_Line) a3)]), .v (.agg [(.d .str a4), (.d (.int .i64) a5), (.d (.sl T_api_Col) a6), (.d (.sl T_api_Line) a7)])] [] some = c  s0 s1 s2 s3 s4 s5 s6 a0 a1 a2 a3 a4 a5 a6 a7 (fun r => some ⟨.tup [(.one (.d (.sl T_api_Line) r.1)), (.one (.d (.int .i64) r.2))], []⟩) := by
  kernel_rfl
theorem s0_ev  {s0 : S0} {s1 : S1} {s2 : S2} {s3 : S3} {s4 : S4} {s5 : S5} {s6 : S6} {x0 : Int} {x1 : Int} {x2 : ByteArray} {x3 : Int} {x4 : List D_api_Col} {x5 : List D_api_Line} {x6 : ByteArray} {x7 : Int} {x8 : List D_api_Col} {x9 : List D_api_Line} {x10 : List D_api_Line} : evAt (env  s0 s1 s2 s3 s4 s5 s6) [4, 1, 0, 1, 1, 1] [2, 3, 6, 7, 8] [.v (.one (.ptr 0 0)), .v (.one (.ptr 1 0)), .v (.one (.own 2)), .v (.one (.d (.int .i64) x0)), .v (.one (.d (.int .i64) x1))] [some (.box [(.d .str x2), (.d (.int .i64) x3), (.d (.sl T_api_Col) x4), (.d (.sl T_api_Line) x5)]), some (.box [(.d .str x6), (.d (.int .i64) x7), (.d (.sl T_api_Col) x8), (.d (.sl T_api_Line) x9)]), some (.own T_api_Line false x10)] some = s0c  s0 s1 s2 s3 s4 s5 s6 x0 x1 x2 x3 x4 x5 x6 x7 x8 x9 x10 (fun r => some ⟨.tup [(.one (.d (.sl T_api_Line) r.1)), (.one (.d (.int .i64) r.2))], []⟩) := by
  kernel_rfl
theorem s1_ev  {s0 : S0} {s1 : S1} {s2 : S2} {s3 : S3} {s4 : S4} {s5 : S5} {s6 : S6} {x0 : Int} {x1 : Int} {x2 : ByteArray} {x3 : Int} {x4 : List D_api_Col} {x5 : List D_api_Line} {x6 : ByteArray} {x7 : Int} {x8 : List D_api_Col} {x9 : List D_api_Line} {x10 : List D_api_Line} : evAt (env  s0 s1 s2 s3 s4 s5 s6) [4, 0, 4, 0, 1, 5, 4, 1, 0, 1, 1, 1] [2, 3, 6, 7, 8] [.v (.one (.ptr 0 0)), .v (.one (.ptr 1 0)), .v (.one (.own 2)), .v (.one (.d (.int .i64) x0)), .v (.one (.d (.int .i64) x1))] [some (.box [(.d .str x2), (.d (.int .i64) x3), (.d (.sl T_api_Col) x4), (.d (.sl T_api_Line) x5)]), some (.box [(.d .str x6), (.d (.int .i64) x7), (.d (.sl T_api_Col) x8), (.d (.sl T_api_Line) x9)]), some (.own T_api_Line false x10)] some = s1c  s0 s1 s2 s3 s4 s5 s6 x0 x1 x2 x3 x4 x5 x6 x7 x8 x9 x10 (fun r => some ⟨.tup [(.one (.d (.sl T_api_Line) r.1)), (.one (.d (.int .i64) r.2))], []⟩) := by
  kernel_rfl
theorem s2_ev  {s0 : S0} {s1 : S1} {s2 : S2} {s3 : S3} {s4 : S4} {s5 : S5} {s6 : S6} {x0 : Int} {x1 : Int} {x2 : Bool} {x3 : ByteArray} {x4 : Int} {x5 : List D_api_Col} {x6 : List D_api_Line} {x7 : ByteArray} {x8 : Int} {x9 : List D_api_Col} {x10 : List D_api_Line} {x11 : List D_api_Line} : evAt (env  s0 s1 s2 s3 s4 s5 s6) [1, 0, 5, 4, 0, 4, 0, 1, 5, 4, 1, 0, 1, 1, 1] [2, 3, 6, 7, 8, 35] [.v (.one (.ptr 0 0)), .v (.one (.ptr 1 0)), .v (.one (.own 2)), .v (.one (.d (.int .i64) x0)), .v (.one (.d (.int .i64) x1)), .v (.one (.d .bool x2))] [some (.box [(.d .str x3), (.d (.int .i64) x4), (.d (.sl T_api_Col) x5), (.d (.sl T_api_Line) x6)]), some (.box [(.d .str x7), (.d (.int .i64) x8), (.d (.sl T_api_Col) x9), (.d (.sl T_api_Line) x10)]), some (.own T_api_Line false x11)] some = s2c  s0 s1 s2 s3 s4 s5 s6 x0 x1 x2 x3 x4 x5 x6 x7 x8 x9 x10 x11 (fun r => some ⟨.tup [(.one (.d (.sl T_api_Line) r.1)), (.one (.d (.int .i64) r.2))], []⟩) := by
  kernel_rfl
theorem s3_ev  {s0 : S0} {s1 : S1} {s2 : S2} {s3 : S3} {s4 : S4} {s5 : S5} {s6 : S6} {x0 : Int} {x1 : Int} {x2 : ByteArray} {x3 : Int} {x4 : List D_api_Col} {x5 : List D_api_Line} {x6 : ByteArray} {x7 : Int} {x8 : List D_api_Col} {x9 : List D_api_Line} {x10 : List D_api_Line} : evAt (env  s0 s1 s2 s3 s4 s5 s6) [1, 5, 4, 0, 4, 0, 1, 5, 4, 1, 0, 1, 1, 1] [2, 3, 6, 7, 8] [.v (.one (.ptr 0 0)), .v (.one (.ptr 1 0)), .v (.one (.own 2)), .v (.one (.d (.int .i64) x0)), .v (.one (.d (.int .i64) x1))] [some (.box [(.d .str x2), (.d (.int .i64) x3), (.d (.sl T_api_Col) x4), (.d (.sl T_api_Line) x5)]), some (.box [(.d .str x6), (.d (.int .i64) x7), (.d (.sl T_api_Col) x8), (.d (.sl T_api_Line) x9)]), some (.own T_api_Line false x10)] some = s3c  s0 s1 s2 s3 s4 s5 s6 x0 x1 x2 x3 x4 x5 x6 x7 x8 x9 x10 (fun r => some ⟨.tup [(.one (.d (.sl T_api_Line) r.1)), (.one (.d (.int .i64) r.2))], []⟩) := by
  kernel_rfl
theorem s4_ev  {s0 : S0} {s1 : S1} {s2 : S2} {s3 : S3} {s4 : S4} {s5 : S5} {s6 : S6} {x0 : Int} {x1 : Int} {x2 : Bool} {x3 : ByteArray} {x4 : Int} {x5 : List D_api_Col} {x6 : List D_api_Line} {x7 : ByteArray} {x8 : Int} {x9 : List D_api_Col} {x10 : List D_api_Line} {x11 : List D_api_Line} : evAt (env  s0 s1 s2 s3 s4 s5 s6) [1, 0, 1, 4, 0, 1, 5, 4, 1, 0, 1, 1, 1] [2, 3, 6, 7, 8, 65] [.v (.one (.ptr 0 0)), .v (.one (.ptr 1 0)), .v (.one (.own 2)), .v (.one (.d (.int .i64) x0)), .v (.one (.d (.int .i64) x1)), .v (.one (.d .bool x2))] [some (.box [(.d .str x3), (.d (.int .i64) x4), (.d (.sl T_api_Col) x5), (.d (.sl T_api_Line) x6)]), some (.box [(.d .str x7), (.d (.int .i64) x8), (.d (.sl T_api_Col) x9), (.d (.sl T_api_Line) x10)]), some (.own T_api_Line false x11)] some = s4c  s0 s1 s2 s3 s4 s5 s6 x0 x1 x2 x3 x4 x5 x6 x7 x8 x9 x10 x11 (fun r => some ⟨.tup [(.one (.d (.sl T_api_Line) r.1)), (.one (.d (.int .i64) r.2))], []⟩) := by
  kernel_rfl
theorem s5_ev  {s0 : S0} {s1 : S1} {s2 : S2} {s3 : S3} {s4 : S4} {s5 : S5} {s6 : S6} {x0 : Int} {x1 : Int} {x2 : ByteArray} {x3 : Int} {x4 : List D_api_Col} {x5 : List D_api_Line} {x6 : ByteArray} {x7 : Int} {x8 : List D_api_Col} {x9 : List D_api_Line} {x10 : List D_api_Line} : evAt (env  s0 s1 s2 s3 s4 s5 s6) [1, 1, 4, 0, 1, 5, 4, 1, 0, 1, 1, 1] [2, 3, 6, 7, 8] [.v (.one (.ptr 0 0)), .v (.one (.ptr 1 0)), .v (.one (.own 2)), .v (.one (.d (.int .i64) x0)), .v (.one (.d (.int .i64) x1))] [some (.box [(.d .str x2), (.d (.int .i64) x3), (.d (.sl T_api_Col) x4), (.d (.sl T_api_Line) x5)]), some (.box [(.d .str x6), (.d (.int .i64) x7), (.d (.sl T_api_Col) x8), (.d (.sl T_api_Line) x9)]), some (.own T_api_Line false x10)] some = s5c  s0 s1 s2 s3 s4 s5 s6 x0 x1 x2 x3 x4 x5 x6 x7 x8 x9 x10 (fun r => some ⟨.tup [(.one (.d (.sl T_api_Line) r.1)), (.one (.d (.int .i64) r.2))], []⟩) := by
  kernel_rfl
theorem s6_ev  {s0 : S0} {s1 : S1} {s2 : S2} {s3 : S3} {s4 : S4} {s5 : S5} {s6 : S6} {x0 : Int} {x1 : Int} {x2 : ByteArray} {x3 : Int} {x4 : List D_api_Col} {x5 : List D_api_Line} {x6 : ByteArray} {x7 : Int} {x8 : List D_api_Col} {x9 : List D_api_Line} {x10 : List D_api_Line} : evAt (env  s0 s1 s2 s3 s4 s5 s6) [1, 1, 5, 4, 1, 0, 1, 1, 1] [2, 3, 6, 7, 8] [.v (.one (.ptr 0 0)), .v (.one (.ptr 1 0)), .v (.one (.own 2)), .v (.one (.d (.int .i64) x0)), .v (.one (.d (.int .i64) x1))] [some (.box [(.d .str x2), (.d (.int .i64) x3), (.d (.sl T_api_Col) x4), (.d (.sl T_api_Line) x5)]), some (.box [(.d .str x6), (.d (.int .i64) x7), (.d (.sl T_api_Col) x8), (.d (.sl T_api_Line) x9)]), some (.own T_api_Line false x10)] some = s6c  s0 s1 s2 s3 s4 s5 s6 x0 x1 x2 x3 x4 x5 x6 x7 x8 x9 x10 (fun r => some ⟨.tup [(.one (.d (.sl T_api_Line) r.1)), (.one (.d (.int .i64) r.2))], []⟩) := by
  kernel_rfl
mutual
def s0 : Nat → Int → Int → ByteArray → Int → (List D_api_Col) → (List D_api_Line) → ByteArray → Int → (List D_api_Col) → (List D_api_Line) → (List D_api_Line) → Option ((List D_api_Line) × Int)
  | 0, _, _, _, _, _, _, _, _, _, _, _ => none
  | k + 1, x0, x1, x2, x3, x4, x5, x6, x7, x8, x9, x10 => s0c  (s0 k) (s1 k) (s2 k) (s3 k) (s4 k) (s5 k) (s6 k) x0 x1 x2 x3 x4 x5 x6 x7 x8 x9 x10 some
def s1 : Nat → Int → Int → ByteArray → Int → (List D_api_Col) → (List D_api_Line) → ByteArray → Int → (List D_api_Col) → (List D_api_Line) → (List D_api_Line) → Option ((List D_api_Line) × Int)
  | 0, _, _, _, _, _, _, _, _, _, _, _ => none
  | k + 1, x0, x1, x2, x3, x4, x5, x6, x7, x8, x9, x10 => s1c  (s0 k) (s1 k) (s2 k) (s3 k) (s4 k) (s5 k) (s6 k) x0 x1 x2 x3 x4 x5 x6 x7 x8 x9 x10 some
def s2 : Nat → Int → Int → Bool → ByteArray → Int → (List D_api_Col) → (List D_api_Line) → ByteArray → Int → (List D_api_Col) → (List D_api_Line) → (List D_api_Line) → Option ((List D_api_Line) × Int)
  | 0, _, _, _, _, _, _, _, _, _, _, _, _ => none
  | k + 1, x0, x1, x2, x3, x4, x5, x6, x7, x8, x9, x10, x11 => s2c  (s0 k) (s1 k) (s2 k) (s3 k) (s4 k) (s5 k) (s6 k) x0 x1 x2 x3 x4 x5 x6 x7 x8 x9 x10 x11 some
def s3 : Nat → Int → Int → ByteArray → Int → (List D_api_Col) → (List D_api_Line) → ByteArray → Int → (List D_api_Col) → (List D_api_Line) → (List D_api_Line) → Option ((List D_api_Line) × Int)
  | 0, _, _, _, _, _, _, _, _, _, _, _ => none
  | k + 1, x0, x1, x2, x3, x4, x5, x6, x7, x8, x9, x10 => s3c  (s0 k) (s1 k) (s2 k) (s3 k) (s4 k) (s5 k) (s6 k) x0 x1 x2 x3 x4 x5 x6 x7 x8 x9 x10 some
def s4 : Nat → Int → Int → Bool → ByteArray → Int → (List D_api_Col) → (List D_api_Line) → ByteArray → Int → (List D_api_Col) → (List D_api_Line) → (List D_api_Line) → Option ((List D_api_Line) × Int)
  | 0, _, _, _, _, _, _, _, _, _, _, _, _ => none
  | k + 1, x0, x1, x2, x3, x4, x5, x6, x7, x8, x9, x10, x11 => s4c  (s0 k) (s1 k) (s2 k) (s3 k) (s4 k) (s5 k) (s6 k) x0 x1 x2 x3 x4 x5 x6 x7 x8 x9 x10 x11 some
def s5 : Nat → Int → Int → ByteArray → Int → (List D_api_Col) → (List D_api_Line) → ByteArray → Int → (List D_api_Col) → (List D_api_Line) → (List D_api_Line) → Option ((List D_api_Line) × Int)
  | 0, _, _, _, _, _, _, _, _, _, _, _ => none
  | k + 1, x0, x1, x2, x3, x4, x5, x6, x7, x8, x9, x10 => s5c  (s0 k) (s1 k) (s2 k) (s3 k) (s4 k) (s5 k) (s6 k) x0 x1 x2 x3 x4 x5 x6 x7 x8 x9 x10 some
def s6 : Nat → Int → Int → ByteArray → Int → (List D_api_Col) → (List D_api_Line) → ByteArray → Int → (List D_api_Col) → (List D_api_Line) → (List D_api_Line) → Option ((List D_api_Line) × Int)
  | 0, _, _, _, _, _, _, _, _, _, _, _ => none
  | k + 1, x0, x1, x2, x3, x4, x5, x6, x7, x8, x9, x10 => s6c  (s0 k) (s1 k) (s2 k) (s3 k) (s4 k) (s5 k) (s6 k) x0 x1 x2 x3 x4 x5 x6 x7 x8 x9 x10 some
end
def f (k : Nat) (a0 : ByteArray) (a1 : Int) (a2 : List D_api_Col) (a3 : List D_api_Line) (a4 : ByteArray) (a5 : Int) (a6 : List D_api_Col) (a7 : List D_api_Line) : Option ((List D_api_Line) × Int) := c  (s0 k) (s1 k) (s2 k) (s3 k) (s4 k) (s5 k) (s6 k) a0 a1 a2 a3 a4 a5 a6 a7 some
theorem is  {s0 : S0} {s1 : S1} {s2 : S2} {s3 : S3} {s4 : S4} {s5 : S5} {s6 : S6} : FnIs (env  s0 s1 s2 s3 s4 s5 s6) 16 f16 := ⟨func16, rfl, rfl, rfl, by decide⟩
theorem envok  {s0 : S0} {s1 : S1} {s2 : S2} {s3 : S3} {s4 : S4} {s5 : S5} {s6 : S6}  : EnvOK (env  s0 s1 s2 s3 s4 s5 s6).toEnv := by
  intro f c h
  simp only [env] at h
  simp at h
noncomputable abbrev E (k : Nat) : FEnv := env  (s0 k) (s1 k) (s2 k) (s3 k) (s4 k) (s5 k) (s6 k)
theorem hE (k : Nat) : EnvOK (E k).toEnv := envok 
theorem segs_ok : ∀ k, ∀ s ∈ (E k).segs, SegOK (E k) f16 s
  | 0 => by
    intro s hs
    simp only [E, env, List.mem_cons, List.not_mem_nil, or_false] at hs
    rcases hs with rfl | rfl | rfl | rfl | rfl | rfl | rfl
    · intro tvs blks res h; exfalso; simp only [sg0] at h; split at h <;> simp [s0] at h
    · intro tvs blks res h; exfalso; simp only [sg1] at h; split at h <;> simp [s1] at h
    · intro tvs blks res h; exfalso; simp only [sg2] at h; split at h <;> simp [s2] at h
    · intro tvs blks res h; exfalso; simp only [sg3] at h; split at h <;> simp [s3] at h
    · intro tvs blks res h; exfalso; simp only [sg4] at h; split at h <;> simp [s4] at h
    · intro tvs blks res h; exfalso; simp only [sg5] at h; split at h <;> simp [s5] at h
    · intro tvs blks res h; exfalso; simp only [sg6] at h; split at h <;> simp [s6] at h
  | k + 1 => by
    intro s hs
    simp only [E, env, List.mem_cons, List.not_mem_nil, or_false] at hs
    rcases hs with rfl | rfl | rfl | rfl | rfl | rfl | rfl
    · refine seg_of_ev (E := E k) (hE k) ⟨is.rvs⟩ (segs_ok k) ?_
      intro tvs blks res h
      simp only [sg0] at h
      split at h
      · exact (s0_ev.trans s0c_bind).trans h
      · simp at h
    · refine seg_of_ev (E := E k) (hE k) ⟨is.rvs⟩ (segs_ok k) ?_
      intro tvs blks res h
      simp only [sg1] at h
      split at h
      · exact (s1_ev.trans s1c_bind).trans h
      · simp at h
    · refine seg_of_ev (E := E k) (hE k) ⟨is.rvs⟩ (segs_ok k) ?_
      intro tvs blks res h
      simp only [sg2] at h
      split at h
      · exact (s2_ev.trans s2c_bind).trans h
      · simp at h
    · refine seg_of_ev (E := E k) (hE k) ⟨is.rvs⟩ (segs_ok k) ?_
      intro tvs blks res h
      simp only [sg3] at h
      split at h
      · exact (s3_ev.trans s3c_bind).trans h
      · simp at h
    · refine seg_of_ev (E := E k) (hE k) ⟨is.rvs⟩ (segs_ok k) ?_
      intro tvs blks res h
      simp only [sg4] at h
      split at h
      · exact (s4_ev.trans s4c_bind).trans h
      · simp at h
    · refine seg_of_ev (E := E k) (hE k) ⟨is.rvs⟩ (segs_ok k) ?_
      intro tvs blks res h
      simp only [sg5] at h
      split at h
      · exact (s5_ev.trans s5c_bind).trans h
      · simp at h
    · refine seg_of_ev (E := E k) (hE k) ⟨is.rvs⟩ (segs_ok k) ?_
      intro tvs blks res h
      simp only [sg6] at h
      split at h
      · exact (s6_ev.trans s6c_bind).trans h
      · simp at h
theorem ok (k : Nat) : CtOK prog 16 (ct (f k)) := by
  refine ct_of_ev (E := E k) is (hE k) (segs_ok k) rfl ?_
  intro tvs blks res h
  simp only [ct] at h
  split at h
  · exact (ev.trans c_bind).trans h
  · simp at h
end transomref12_Merge
namespace transomref04_Same
abbrev G : Type := Int → Int → Int → ByteArray → Int → Int → Int → ByteArray → Option Bool
def ct (g : G) : Ct where
  nin := 0
  mv := []
  F := fun tvs blks {β} K => match tvs, blks with
    | [.v (.agg [(.d (.int .i64) a0), (.d (.int .i64) a1), (.d (.int .u64) a2), (.d .str a3)]), .v (.agg [(.d (.int .i64) a4), (.d (.int .i64) a5), (.d (.int .u64) a6), (.d .str a7)])], [] => (g a0 a1 a2 a3 a4 a5 a6 a7).bind fun r => K ⟨.v (.one (.d .bool r)), []⟩
    | _, _ => none
  legit := fun _ _ K _ h => by split at h; exact (legit1 K h :); simp at h
noncomputable def env   : FEnv := { P := prog, ct := fun m => none, N := 31, body := f54.body.getD .skip, rvs := [.tmp 4], rts := [4], nin := 0, rmv := [], segs := [] }
def c {β : Type}   (a0 : Int) (a1 : Int) (a2 : Int) (a3 : ByteArray) (a4 : Int) (a5 : Int) (a6 : Int) (a7 : ByteArray) (ret : Bool → Option β) : Option β := (bif (a0 == a4) then (bif (a1 == a5) then (bif (a2 == a6) then (ret (((ByteArray.toList a3) == (ByteArray.toList a7)))) else (ret (false))) else (ret (false))) else (ret (false)))
theorem c_bind {β : Type}   {a0 : Int} {a1 : Int} {a2 : Int} {a3 : ByteArray} {a4 : Int} {a5 : Int} {a6 : Int} {a7 : ByteArray} {ret : Bool → Option β} : c   a0 a1 a2 a3 a4 a5 a6 a7 ret = (c   a0 a1 a2 a3 a4 a5 a6 a7 some).bind ret := by
  simp only [c, bif_bind, sum_bind, oa, os, on, ofs]
theorem ev   {a0 : Int} {a1 : Int} {a2 : Int} {a3 : ByteArray} {a4 : Int} {a5 : Int} {a6 : Int} {a7 : ByteArray} : evAt (env  ) [] [0, 1] [.v (.agg [(.d (.int .i64) a0), (.d (.int .i64) a1), (.d (.int .u64) a2), (.d .str a3)]), .v (.agg [(.d (.int .i64) a4), (.d (.int .i64) a5), (.d (.int .u64) a6), (.d .str a7)])] [] some = c   a0 a1 a2 a3 a4 a5 a6 a7 (fun r => some ⟨.v (.one (.d .bool r)), []⟩) := by
  kernel_rfl
def f (k : Nat) (a0 : Int) (a1 : Int) (a2 : Int) (a3 : ByteArray) (a4 : Int) (a5 : Int) (a6 : Int) (a7 : ByteArray) : Option Bool := c   a0 a1 a2 a3 a4 a5 a6 a7 some
theorem is   : FnIs (env  ) 54 f54 := ⟨func54, rfl, rfl, rfl, by decide⟩
theorem envok    : EnvOK (env  ).toEnv := by
  intro f c h
  simp only [env] at h
  simp at h
noncomputable abbrev E (k : Nat) : FEnv := env  
theorem hE (k : Nat) : EnvOK (E k).toEnv := envok 
theorem ok (k : Nat) : CtOK prog 54 (ct (f k)) := by
  refine ct_of_ev (E := E k) is (hE k) (fun s hs => by simp [E, env] at hs) rfl ?_
  intro tvs blks res h
  simp only [ct] at h
  split at h
  · exact (ev.trans c_bind).trans h
  · simp at h
end transomref04_Same
end Go.Proofs.YtdbbkmmillnaiaaDoor.Aev
