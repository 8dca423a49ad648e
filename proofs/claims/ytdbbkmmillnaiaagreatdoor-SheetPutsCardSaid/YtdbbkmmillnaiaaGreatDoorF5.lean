/- By a program of this session (AEV): functions of the program as plain functions, and that the machine does what they say. -/
import Derived.Test.YtdbbkmmillnaiaaGreatDoorTys
import Derived.Test.YtdbbkmmillnaiaaGreatDoorProg
import Derived.Laws.Externs
import Derived.Lib.Bytealg
import Derived.Test.YtdbbkmmillnaiaaGreatDoorF1
import Derived.Test.YtdbbkmmillnaiaaGreatDoorF2
import Derived.Test.YtdbbkmmillnaiaaGreatDoorF3
import Derived.Test.YtdbbkmmillnaiaaGreatDoorF4
namespace Go.Proofs.YtdbbkmmillnaiaaGreatDoor.Aev
set_option linter.unusedVariables false
set_option linter.unusedSimpArgs false
set_option maxRecDepth 100000
set_option maxHeartbeats 4000000
open Go Go.Proofs.Tryz
namespace schema_table
abbrev G : Type := ByteArray → Int → (List D_api_Col) → Option (((Int × Unit)) ⊕ Unit)
def ct (g : G) : Ct where
  nin := 0
  mv := []
  F := fun tvs blks {β} K => match tvs, blks with
    | [.v (.agg [(.d .str a0), (.d (.int .i64) a1), (.d (.sl (.pair .str (.pair (.int .i64) (.pair .bool (.pair (.pair (.int .i64) (.pair (.int .i64) (.pair (.int .u64) (.pair .str .unit)))) .unit))))) a2)])], [] => (g a0 a1 a2).bind fun r => Sum.elim (fun r => K ⟨.v (.one (.ifc 89 true (.pair (.int .i64) .unit) r)), []⟩) (fun r => K ⟨.v (.one (.raw (.nilIface))), []⟩) r
    | _, _ => none
  legit := fun tvs blks K r h => by
    split at h
    · obtain ⟨x, hx, hk⟩ := Option.bind_eq_some_iff.1 h
      rcases x with x | x <;> (simp only [Sum.elim_inl, Sum.elim_inr] at hk; exact ⟨_, by simp only [hx, Option.bind_some, Sum.elim_inl, Sum.elim_inr], hk⟩)
    · simp at h
abbrev S0 : Type := Bool → ByteArray → Int → (List D_api_Col) → Option (((Int × Unit)) ⊕ Unit)
abbrev S1 : Type := ByteArray → Int → (List D_api_Col) → Option (((Int × Unit)) ⊕ Unit)
abbrev S2 : Type := Bool → ByteArray → Int → (List D_api_Col) → Option (((Int × Unit)) ⊕ Unit)
abbrev S3 : Type := ByteArray → Int → (List D_api_Col) → Option (((Int × Unit)) ⊕ Unit)
abbrev S4 : Type := (List D_api_Col) → Int → Int → ByteArray → Int → (List D_api_Col) → Option (((Int × Unit)) ⊕ Unit)
def sg0 (g : S0) : Seg where
  path := [1, 0, 1, 1]
  prep := []
  keep := [1, 24]
  F := fun tvs blks {β} K => match tvs, blks with
    | [.v (.one (.ptr 0 0)), .v (.one (.d .bool x0))], [some (.box [(.d .str x1), (.d (.int .i64) x2), (.d (.sl (.pair .str (.pair (.int .i64) (.pair .bool (.pair (.pair (.int .i64) (.pair (.int .i64) (.pair (.int .u64) (.pair .str .unit)))) .unit))))) x3)])] => (g x0 x1 x2 x3).bind fun r => Sum.elim (fun r => K ⟨.v (.one (.ifc 89 true (.pair (.int .i64) .unit) r)), []⟩) (fun r => K ⟨.v (.one (.raw (.nilIface))), []⟩) r
    | _, _ => none
  legit := fun tvs blks K r h => by
    split at h
    · obtain ⟨x, hx, hk⟩ := Option.bind_eq_some_iff.1 h
      rcases x with x | x <;> (simp only [Sum.elim_inl, Sum.elim_inr] at hk; exact ⟨_, by simp only [hx, Option.bind_some, Sum.elim_inl, Sum.elim_inr], hk⟩)
    · simp at h
def sg1 (g : S1) : Seg where
  path := [1, 1, 1]
  prep := []
  keep := [1]
  F := fun tvs blks {β} K => match tvs, blks with
    | [.v (.one (.ptr 0 0))], [some (.box [(.d .str x0), (.d (.int .i64) x1), (.d (.sl (.pair .str (.pair (.int .i64) (.pair .bool (.pair (.pair (.int .i64) (.pair (.int .i64) (.pair (.int .u64) (.pair .str .unit)))) .unit))))) x2)])] => (g x0 x1 x2).bind fun r => Sum.elim (fun r => K ⟨.v (.one (.ifc 89 true (.pair (.int .i64) .unit) r)), []⟩) (fun r => K ⟨.v (.one (.raw (.nilIface))), []⟩) r
    | _, _ => none
  legit := fun tvs blks K r h => by
    split at h
    · obtain ⟨x, hx, hk⟩ := Option.bind_eq_some_iff.1 h
      rcases x with x | x <;> (simp only [Sum.elim_inl, Sum.elim_inr] at hk; exact ⟨_, by simp only [hx, Option.bind_some, Sum.elim_inl, Sum.elim_inr], hk⟩)
    · simp at h
def sg2 (g : S2) : Seg where
  path := [1, 0, 1, 1, 1]
  prep := []
  keep := [1, 38]
  F := fun tvs blks {β} K => match tvs, blks with
    | [.v (.one (.ptr 0 0)), .v (.one (.d .bool x0))], [some (.box [(.d .str x1), (.d (.int .i64) x2), (.d (.sl (.pair .str (.pair (.int .i64) (.pair .bool (.pair (.pair (.int .i64) (.pair (.int .i64) (.pair (.int .u64) (.pair .str .unit)))) .unit))))) x3)])] => (g x0 x1 x2 x3).bind fun r => Sum.elim (fun r => K ⟨.v (.one (.ifc 89 true (.pair (.int .i64) .unit) r)), []⟩) (fun r => K ⟨.v (.one (.raw (.nilIface))), []⟩) r
    | _, _ => none
  legit := fun tvs blks K r h => by
    split at h
    · obtain ⟨x, hx, hk⟩ := Option.bind_eq_some_iff.1 h
      rcases x with x | x <;> (simp only [Sum.elim_inl, Sum.elim_inr] at hk; exact ⟨_, by simp only [hx, Option.bind_some, Sum.elim_inl, Sum.elim_inr], hk⟩)
    · simp at h
def sg3 (g : S3) : Seg where
  path := [1, 1, 1, 1]
  prep := []
  keep := [1]
  F := fun tvs blks {β} K => match tvs, blks with
    | [.v (.one (.ptr 0 0))], [some (.box [(.d .str x0), (.d (.int .i64) x1), (.d (.sl (.pair .str (.pair (.int .i64) (.pair .bool (.pair (.pair (.int .i64) (.pair (.int .i64) (.pair (.int .u64) (.pair .str .unit)))) .unit))))) x2)])] => (g x0 x1 x2).bind fun r => Sum.elim (fun r => K ⟨.v (.one (.ifc 89 true (.pair (.int .i64) .unit) r)), []⟩) (fun r => K ⟨.v (.one (.raw (.nilIface))), []⟩) r
    | _, _ => none
  legit := fun tvs blks K r h => by
    split at h
    · obtain ⟨x, hx, hk⟩ := Option.bind_eq_some_iff.1 h
      rcases x with x | x <;> (simp only [Sum.elim_inl, Sum.elim_inr] at hk; exact ⟨_, by simp only [hx, Option.bind_some, Sum.elim_inl, Sum.elim_inr], hk⟩)
    · simp at h
def sg4 (g : S4) : Seg where
  path := [4, 1, 0, 1, 1, 1, 1]
  prep := []
  keep := [1, 42, 43, 44]
  F := fun tvs blks {β} K => match tvs, blks with
    | [.v (.one (.ptr 0 0)), .v (.one (.d (.sl (.pair .str (.pair (.int .i64) (.pair .bool (.pair (.pair (.int .i64) (.pair (.int .i64) (.pair (.int .u64) (.pair .str .unit)))) .unit))))) x0)), .v (.one (.d (.int .i64) x1)), .v (.one (.d (.int .i64) x2))], [some (.box [(.d .str x3), (.d (.int .i64) x4), (.d (.sl (.pair .str (.pair (.int .i64) (.pair .bool (.pair (.pair (.int .i64) (.pair (.int .i64) (.pair (.int .u64) (.pair .str .unit)))) .unit))))) x5)])] => (g x0 x1 x2 x3 x4 x5).bind fun r => Sum.elim (fun r => K ⟨.v (.one (.ifc 89 true (.pair (.int .i64) .unit) r)), []⟩) (fun r => K ⟨.v (.one (.raw (.nilIface))), []⟩) r
    | _, _ => none
  legit := fun tvs blks K r h => by
    split at h
    · obtain ⟨x, hx, hk⟩ := Option.bind_eq_some_iff.1 h
      rcases x with x | x <;> (simp only [Sum.elim_inl, Sum.elim_inr] at hk; exact ⟨_, by simp only [hx, Option.bind_some, Sum.elim_inl, Sum.elim_inr], hk⟩)
    · simp at h
noncomputable def env (g51 : names_Check.G) (g52 : schema_col.G) (g53 : names_Unlike.G) (g54 : schema_words.G) (g55 : api_Col_55.G) (g56 : schema_table_1.G) (s0 : S0) (s1 : S1) (s2 : S2) (s3 : S3) (s4 : S4) : FEnv := { P := prog, ct := fun m => if m = 51 then some (names_Check.ct g51) else if m = 52 then some (schema_col.ct g52) else if m = 53 then some (names_Unlike.ct g53) else if m = 54 then some (schema_words.ct g54) else if m = 55 then some (api_Col_55.ct g55) else if m = 56 then some (schema_table_1.ct g56) else none, N := 69, body := f40.body.getD .skip, rvs := [.tmp 2], rts := [80], nin := 0, rmv := [], segs := [sg0 s0, sg1 s1, sg2 s2, sg3 s3, sg4 s4] }
def c {β : Type} (g51 : names_Check.G) (g52 : schema_col.G) (g53 : names_Unlike.G) (g54 : schema_words.G) (g55 : api_Col_55.G) (g56 : schema_table_1.G) (s0 : S0) (s1 : S1) (s2 : S2) (s3 : S3) (s4 : S4) (a0 : ByteArray) (a1 : Int) (a2 : List D_api_Col) (ret : (((Int × Unit)) ⊕ Unit) → Option β) : Option β := ((g51 a0).bind fun r0 => (bif (r0 != (0 : Int)) then (ret (.inl ((r0, ())))) else (bif (decide (((List.length a2) : Int) < (1 : Int))) then ((s0 true a0 a1 a2).bind ret) else ((s0 (decide (((List.length a2) : Int) > (8 : Int))) a0 a1 a2).bind ret))))
def s0c {β : Type} (g51 : names_Check.G) (g52 : schema_col.G) (g53 : names_Unlike.G) (g54 : schema_words.G) (g55 : api_Col_55.G) (g56 : schema_table_1.G) (s0 : S0) (s1 : S1) (s2 : S2) (s3 : S3) (s4 : S4) (x0 : Bool) (x1 : ByteArray) (x2 : Int) (x3 : List D_api_Col) (ret : (((Int × Unit)) ⊕ Unit) → Option β) : Option β := (bif x0 then (ret (.inl (((2 : Int), ())))) else ((s1 x1 x2 x3).bind ret))
def s1c {β : Type} (g51 : names_Check.G) (g52 : schema_col.G) (g53 : names_Unlike.G) (g54 : schema_words.G) (g55 : api_Col_55.G) (g56 : schema_table_1.G) (s0 : S0) (s1 : S1) (s2 : S2) (s3 : S3) (s4 : S4) (x0 : ByteArray) (x1 : Int) (x2 : List D_api_Col) (ret : (((Int × Unit)) ⊕ Unit) → Option β) : Option β := (bif (decide (x1 < (1 : Int))) then ((s2 true x0 x1 x2).bind ret) else ((s2 (decide (x1 > (if (((List.length x2) : Int) < (3 : Int)) then ((List.length x2) : Int) else (3 : Int)))) x0 x1 x2).bind ret))
def s2c {β : Type} (g51 : names_Check.G) (g52 : schema_col.G) (g53 : names_Unlike.G) (g54 : schema_words.G) (g55 : api_Col_55.G) (g56 : schema_table_1.G) (s0 : S0) (s1 : S1) (s2 : S2) (s3 : S3) (s4 : S4) (x0 : Bool) (x1 : ByteArray) (x2 : Int) (x3 : List D_api_Col) (ret : (((Int × Unit)) ⊕ Unit) → Option β) : Option β := (bif x0 then (ret (.inl (((1 : Int), ())))) else ((s3 x1 x2 x3).bind ret))
def s3c {β : Type} (g51 : names_Check.G) (g52 : schema_col.G) (g53 : names_Unlike.G) (g54 : schema_words.G) (g55 : api_Col_55.G) (g56 : schema_table_1.G) (s0 : S0) (s1 : S1) (s2 : S2) (s3 : S3) (s4 : S4) (x0 : ByteArray) (x1 : Int) (x2 : List D_api_Col) (ret : (((Int × Unit)) ⊕ Unit) → Option β) : Option β := ((s4 x2 ((List.length x2) : Int) (0 : Int) x0 x1 x2).bind ret)
def s4c {β : Type} (g51 : names_Check.G) (g52 : schema_col.G) (g53 : names_Unlike.G) (g54 : schema_words.G) (g55 : api_Col_55.G) (g56 : schema_table_1.G) (s0 : S0) (s1 : S1) (s2 : S2) (s3 : S3) (s4 : S4) (x0 : List D_api_Col) (x1 : Int) (x2 : Int) (x3 : ByteArray) (x4 : Int) (x5 : List D_api_Col) (ret : (((Int × Unit)) ⊕ Unit) → Option β) : Option β := (bif (decide (x2 < x1)) then (bif ((decide ((0 : Int) ≤ x2)) && (decide (x2 < ((List.length x0) : Int)))) then ((g52 (elem T_api_Col x0 x2).1 (elem T_api_Col x0 x2).2.1 (elem T_api_Col x0 x2).2.2.1 (elem T_api_Col x0 x2).2.2.2.1.1 (elem T_api_Col x0 x2).2.2.2.1.2.1 (elem T_api_Col x0 x2).2.2.2.1.2.2.1 (elem T_api_Col x0 x2).2.2.2.1.2.2.2.1).bind fun r0 => (Sum.elim (fun r1 => (ret (.inl (r1)))) (fun r2 => ((s4 x0 x1 (IntKind.wrap IntKind.i64 (x2 + (1 : Int))) x3 x4 x5).bind ret)) r0)) else none) else ((g54 x5).bind fun r3 => ((g53 r3).bind fun r4 => (bif (!r4) then (ret (.inl (((12 : Int), ())))) else (bif ((true && (decide ((0 : Int) ≤ x4))) && (decide (x4 ≤ ((List.length x5) : Int)))) then ((g55 (List.take ((Int.toNat x4) - (0 : Nat)) (List.drop (0 : Nat) x5))).bind fun r5 => (bif r5 then (ret (.inl (((11 : Int), ())))) else (ret (.inr ())))) else none)))))
theorem c_bind {β : Type} {g51 : names_Check.G} {g52 : schema_col.G} {g53 : names_Unlike.G} {g54 : schema_words.G} {g55 : api_Col_55.G} {g56 : schema_table_1.G} {s0 : S0} {s1 : S1} {s2 : S2} {s3 : S3} {s4 : S4} {a0 : ByteArray} {a1 : Int} {a2 : List D_api_Col} {ret : (((Int × Unit)) ⊕ Unit) → Option β} : c g51 g52 g53 g54 g55 g56 s0 s1 s2 s3 s4 a0 a1 a2 ret = (c g51 g52 g53 g54 g55 g56 s0 s1 s2 s3 s4 a0 a1 a2 some).bind ret := by
  simp only [c, bif_bind, sum_bind, oa, os, on, ofs]
theorem s0c_bind {β : Type} {g51 : names_Check.G} {g52 : schema_col.G} {g53 : names_Unlike.G} {g54 : schema_words.G} {g55 : api_Col_55.G} {g56 : schema_table_1.G} {s0 : S0} {s1 : S1} {s2 : S2} {s3 : S3} {s4 : S4} {x0 : Bool} {x1 : ByteArray} {x2 : Int} {x3 : List D_api_Col} {ret : (((Int × Unit)) ⊕ Unit) → Option β} : s0c g51 g52 g53 g54 g55 g56 s0 s1 s2 s3 s4 x0 x1 x2 x3 ret = (s0c g51 g52 g53 g54 g55 g56 s0 s1 s2 s3 s4 x0 x1 x2 x3 some).bind ret := by
  simp only [s0c, bif_bind, sum_bind, oa, os, on, ofs]
theorem s1c_bind {β : Type} {g51 : names_Check.G} {g52 : schema_col.G} {g53 : names_Unlike.G} {g54 : schema_words.G} {g55 : api_Col_55.G} {g56 : schema_table_1.G} {s0 : S0} {s1 : S1} {s2 : S2} {s3 : S3} {s4 : S4} {x0 : ByteArray} {x1 : Int} {x2 : List D_api_Col} {ret : (((Int × Unit)) ⊕ Unit) → Option β} : s1c g51 g52 g53 g54 g55 g56 s0 s1 s2 s3 s4 x0 x1 x2 ret = (s1c g51 g52 g53 g54 g55 g56 s0 s1 s2 s3 s4 x0 x1 x2 some).bind ret := by
  simp only [s1c, bif_bind, sum_bind, oa, os, on, ofs]
theorem s2c_bind {β : Type} {g51 : names_Check.G} {g52 : schema_col.G} {g53 : names_Unlike.G} {g54 : schema_words.G} {g55 : api_Col_55.G} {g56 : schema_table_1.G} {s0 : S0} {s1 : S1} {s2 : S2} {s3 : S3} {s4 : S4} {x0 : Bool} {x1 : ByteArray} {x2 : Int} {x3 : List D_api_Col} {ret : (((Int × Unit)) ⊕ Unit) → Option β} : s2c g51 g52 g53 g54 g55 g56 s0 s1 s2 s3 s4 x0 x1 x2 x3 ret = (s2c g51 g52 g53 g54 g55 g56 s0 s1 s2 s3 s4 x0 x1 x2 x3 some).bind ret := by
  simp only [s2c, bif_bind, sum_bind, oa, os, on, ofs]
theorem s3c_bind {β : Type} {g51 : names_Check.G} {g52 : schema_col.G} {g53 : names_Unlike.G} {g54 : schema_words.G} {g55 : api_Col_55.G} {g56 : schema_table_1.G} {s0 : S0} {s1 : S1} {s2 : S2} {s3 : S3} {s4 : S4} {x0 : ByteArray} {x1 : Int} {x2 : List D_api_Col} {ret : (((Int × Unit)) ⊕ Unit) → Option β} : s3c g51 g52 g53 g54 g55 g56 s0 s1 s2 s3 s4 x0 x1 x2 ret = (s3c g51 g52 g53 g54 g55 g56 s0 s1 s2 s3 s4 x0 x1 x2 some).bind ret := by
  simp only [s3c, bif_bind, sum_bind, oa, os, on, ofs]
theorem s4c_bind {β : Type} {g51 : names_Check.G} {g52 : schema_col.G} {g53 : names_Unlike.G} {g54 : schema_words.G} {g55 : api_Col_55.G} {g56 : schema_table_1.G} {s0 : S0} {s1 : S1} {s2 : S2} {s3 : S3} {s4 : S4} {x0 : List D_api_Col} {x1 : Int} {x2 : Int} {x3 : ByteArray} {x4 : Int} {x5 : List D_api_Col} {ret : (((Int × Unit)) ⊕ Unit) → Option β} : s4c g51 g52 g53 g54 g55 g56 s0 s1 s2 s3 s4 x0 x1 x2 x3 x4 x5 ret = (s4c g51 g52 g53 g54 g55 g56 s0 s1 s2 s3 s4 x0 x1 x2 x3 x4 x5 some).bind ret := by
  simp only [s4c, bif_bind, sum_bind, oa, os, on, ofs]
theorem ev {g51 : names_Check.G} {g52 : schema_col.G} {g53 : names_Unlike.G} {g54 : schema_words.G} {g55 : api_Col_55.G} {g56 : schema_table_1.G} {s0 : S0} {s1 : S1} {s2 : S2} {s3 : S3} {s4 : S4} {a0 : ByteArray} {a1 : Int} {a2 : List D_api_Col} : evAt (env g51 g52 g53 g54 g55 g56 s0 s1 s2 s3 s4) [] [0] [.v (.agg [(.d .str a0), (.d (.int .i64) a1), (.d (.sl T_api_Col) a2)])] [] some = c g51 g52 g53 g54 g55 g56 s0 s1 s2 s3 s4 a0 a1 a2 (fun r => Sum.elim (fun r => some ⟨.v (.one (.ifc 89 true (.pair (.int .i64) .unit) r)), []⟩) (fun r => some ⟨.v (.one (.raw (.nilIface))), []⟩) r) := by
  kernel_rfl
theorem s0_ev {g51 : names_Check.G} {g52 : schema_col.G} {g53 : names_Unlike.G} {g54 : schema_words.G} {g55 : api_Col_55.G} {g56 : schema_table_1.G} {s0 : S0} {s1 : S1} {s2 : S2} {s3 : S3} {s4 : S4} {x0 : Bool} {x1 : ByteArray} {x2 : Int} {x3 : List D_api_Col} : evAt (env g51 g52 g53 g54 g55 g56 s0 s1 s2 s3 s4) [1, 0, 1, 1] [1, 24] [.v (.one (.ptr 0 0)), .v (.one (.d .bool x0))] [some (.box [(.d .str x1), (.d (.int .i64) x2), (.d (.sl T_api_Col) x3)])] some = s0c g51 g52 g53 g54 g55 g56 s0 s1 s2 s3 s4 x0 x1 x2 x3 (fun r => Sum.elim (fun r => some ⟨.v (.one (.ifc 89 true (.pair (.int .i64) .unit) r)), []⟩) (fun r => some ⟨.v (.one (.raw (.nilIface))), []⟩) r) := by
  kernel_rfl
theorem s1_ev {g51 : names_Check.G} {g52 : schema_col.G} {g53 : names_Unlike.G} {g54 : schema_words.G} {g55 : api_Col_55.G} {g56 : schema_table_1.G} {s0 : S0} {s1 : S1} {s2 : S2} {s3 : S3} {s4 : S4} {x0 : ByteArray} {x1 : Int} {x2 : List D_api_Col} : evAt (env g51 g52 g53 g54 g55 g56 s0 s1 s2 s3 s4) [1, 1, 1] [1] [.v (.one (.ptr 0 0))] [some (.box [(.d .str x0), (.d (.int .i64) x1), (.d (.sl T_api_Col) x2)])] some = s1c g51 g52 g53 g54 g55 g56 s0 s1 s2 s3 s4 x0 x1 x2 (fun r => Sum.elim (fun r => some ⟨.v (.one (.ifc 89 true (.pair (.int .i64) .unit) r)), []⟩) (fun r => some ⟨.v (.one (.raw (.nilIface))), []⟩) r) := by
  kernel_rfl
theorem s2_ev {g51 : names_Check.G} {g52 : schema_col.G} {g53 : names_Unlike.G} {g54 : schema_words.G} {g55 : api_Col_55.G} {g56 : schema_table_1.G} {s0 : S0} {s1 : S1} {s2 : S2} {s3 : S3} {s4 : S4} {x0 : Bool} {x1 : ByteArray} {x2 : Int} {x3 : List D_api_Col} : evAt (env g51 g52 g53 g54 g55 g56 s0 s1 s2 s3 s4) [1, 0, 1, 1, 1] [1, 38] [.v (.one (.ptr 0 0)), .v (.one (.d .bool x0))] [some (.box [(.d .str x1), (.d (.int .i64) x2), (.d (.sl T_api_Col) x3)])] some = s2c g51 g52 g53 g54 g55 g56 s0 s1 s2 s3 s4 x0 x1 x2 x3 (fun r => Sum.elim (fun r => some ⟨.v (.one (.ifc 89 true (.pair (.int .i64) .unit) r)), []⟩) (fun r => some ⟨.v (.one (.raw (.nilIface))), []⟩) r) := by
  kernel_rfl
theorem s3_ev {g51 : names_Check.G} {g52 : schema_col.G} {g53 : names_Unlike.G} {g54 : schema_words.G} {g55 : api_Col_55.G} {g56 : schema_table_1.G} {s0 : S0} {s1 : S1} {s2 : S2} {s3 : S3} {s4 : S4} {x0 : ByteArray} {x1 : Int} {x2 : List D_api_Col} : evAt (env g51 g52 g53 g54 g55 g56 s0 s1 s2 s3 s4) [1, 1, 1, 1] [1] [.v (.one (.ptr 0 0))] [some (.box [(.d .str x0), (.d (.int .i64) x1), (.d (.sl T_api_Col) x2)])] some = s3c g51 g52 g53 g54 g55 g56 s0 s1 s2 s3 s4 x0 x1 x2 (fun r => Sum.elim (fun r => some ⟨.v (.one (.ifc 89 true (.pair (.int .i64) .unit) r)), []⟩) (fun r => some ⟨.v (.one (.raw (.nilIface))), []⟩) r) := by
  kernel_rfl
theorem s4_ev {g51 : names_Check.G} {g52 : schema_col.G} {g53 : names_Unlike.G} {g54 : schema_words.G} {g55 : api_Col_55.G} {g56 : schema_table_1.G} {s0 : S0} {s1 : S1} {s2 : S2} {s3 : S3} {s4 : S4} {x0 : List D_api_Col} {x1 : Int} {x2 : Int} {x3 : ByteArray} {x4 : Int} {x5 : List D_api_Col} : evAt (env g51 g52 g53 g54 g55 g56 s0 s1 s2 s3 s4) [4, 1, 0, 1, 1, 1, 1] [1, 42, 43, 44] [.v (.one (.ptr 0 0)), .v (.one (.d (.sl T_api_Col) x0)), .v (.one (.d (.int .i64) x1)), .v (.one (.d (.int .i64) x2))] [some (.box [(.d .str x3), (.d (.int .i64) x4), (.d (.sl T_api_Col) x5)])] some = s4c g51 g52 g53 g54 g55 g56 s0 s1 s2 s3 s4 x0 x1 x2 x3 x4 x5 (fun r => Sum.elim (fun r => some ⟨.v (.one (.ifc 89 true (.pair (.int .i64) .unit) r)), []⟩) (fun r => some ⟨.v (.one (.raw (.nilIface))), []⟩) r) := by
  kernel_rfl
mutual
def s0 : Nat → Bool → ByteArray → Int → (List D_api_Col) → Option (((Int × Unit)) ⊕ Unit)
  | 0, _, _, _, _ => none
  | k + 1, x0, x1, x2, x3 => s0c (names_Check.f k) (schema_col.f k) (names_Unlike.f k) (schema_words.f k) (api_Col_55.f k) (schema_table_1.f k) (s0 k) (s1 k) (s2 k) (s3 k) (s4 k) x0 x1 x2 x3 some
def s1 : Nat → ByteArray → Int → (List D_api_Col) → Option (((Int × Unit)) ⊕ Unit)
  | 0, _, _, _ => none
  | k + 1, x0, x1, x2 => s1c (names_Check.f k) (schema_col.f k) (names_Unlike.f k) (schema_words.f k) (api_Col_55.f k) (schema_table_1.f k) (s0 k) (s1 k) (s2 k) (s3 k) (s4 k) x0 x1 x2 some
def s2 : Nat → Bool → ByteArray → Int → (List D_api_Col) → Option (((Int × Unit)) ⊕ Unit)
  | 0, _, _, _, _ => none
  | k + 1, x0, x1, x2, x3 => s2c (names_Check.f k) (schema_col.f k) (names_Unlike.f k) (schema_words.f k) (api_Col_55.f k) (schema_table_1.f k) (s0 k) (s1 k) (s2 k) (s3 k) (s4 k) x0 x1 x2 x3 some
def s3 : Nat → ByteArray → Int → (List D_api_Col) → Option (((Int × Unit)) ⊕ Unit)
  | 0, _, _, _ => none
  | k + 1, x0, x1, x2 => s3c (names_Check.f k) (schema_col.f k) (names_Unlike.f k) (schema_words.f k) (api_Col_55.f k) (schema_table_1.f k) (s0 k) (s1 k) (s2 k) (s3 k) (s4 k) x0 x1 x2 some
def s4 : Nat → (List D_api_Col) → Int → Int → ByteArray → Int → (List D_api_Col) → Option (((Int × Unit)) ⊕ Unit)
  | 0, _, _, _, _, _, _ => none
  | k + 1, x0, x1, x2, x3, x4, x5 => s4c (names_Check.f k) (schema_col.f k) (names_Unlike.f k) (schema_words.f k) (api_Col_55.f k) (schema_table_1.f k) (s0 k) (s1 k) (s2 k) (s3 k) (s4 k) x0 x1 x2 x3 x4 x5 some
end
def f (k : Nat) (a0 : ByteArray) (a1 : Int) (a2 : List D_api_Col) : Option (((Int × Unit)) ⊕ Unit) := c (names_Check.f k) (schema_col.f k) (names_Unlike.f k) (schema_words.f k) (api_Col_55.f k) (schema_table_1.f k) (s0 k) (s1 k) (s2 k) (s3 k) (s4 k) a0 a1 a2 some
theorem is {g51 : names_Check.G} {g52 : schema_col.G} {g53 : names_Unlike.G} {g54 : schema_words.G} {g55 : api_Col_55.G} {g56 : schema_table_1.G} {s0 : S0} {s1 : S1} {s2 : S2} {s3 : S3} {s4 : S4} : FnIs (env g51 g52 g53 g54 g55 g56 s0 s1 s2 s3 s4) 40 f40 := ⟨func40, rfl, rfl, rfl, by decide⟩
theorem envok {g51 : names_Check.G} {g52 : schema_col.G} {g53 : names_Unlike.G} {g54 : schema_words.G} {g55 : api_Col_55.G} {g56 : schema_table_1.G} {s0 : S0} {s1 : S1} {s2 : S2} {s3 : S3} {s4 : S4} (h51 : CtOK prog 51 (names_Check.ct g51)) (h52 : CtOK prog 52 (schema_col.ct g52)) (h53 : CtOK prog 53 (names_Unlike.ct g53)) (h54 : CtOK prog 54 (schema_words.ct g54)) (h55 : CtOK prog 55 (api_Col_55.ct g55)) (h56 : CtOK prog 56 (schema_table_1.ct g56)) : EnvOK (env g51 g52 g53 g54 g55 g56 s0 s1 s2 s3 s4).toEnv := by
  intro f c h
  simp only [env] at h
  split at h
  · rename_i e; subst e; cases h; exact h51
  split at h
  · rename_i e; subst e; cases h; exact h52
  split at h
  · rename_i e; subst e; cases h; exact h53
  split at h
  · rename_i e; subst e; cases h; exact h54
  split at h
  · rename_i e; subst e; cases h; exact h55
  split at h
  · rename_i e; subst e; cases h; exact h56
  simp at h
noncomputable abbrev E (k : Nat) : FEnv := env (names_Check.f k) (schema_col.f k) (names_Unlike.f k) (schema_words.f k) (api_Col_55.f k) (schema_table_1.f k) (s0 k) (s1 k) (s2 k) (s3 k) (s4 k)
theorem hE (k : Nat) : EnvOK (E k).toEnv := envok (names_Check.ok k) (schema_col.ok k) (names_Unlike.ok k) (schema_words.ok k) (api_Col_55.ok k) (schema_table_1.ok k)
theorem segs_ok : ∀ k, ∀ s ∈ (E k).segs, SegOK (E k) f40 s
  | 0 => by
    intro s hs
    simp only [E, env, List.mem_cons, List.not_mem_nil, or_false] at hs
    rcases hs with rfl | rfl | rfl | rfl | rfl
    · intro tvs blks res h; exfalso; simp only [sg0] at h; split at h <;> simp [s0] at h
    · intro tvs blks res h; exfalso; simp only [sg1] at h; split at h <;> simp [s1] at h
    · intro tvs blks res h; exfalso; simp only [sg2] at h; split at h <;> simp [s2] at h
    · intro tvs blks res h; exfalso; simp only [sg3] at h; split at h <;> simp [s3] at h
    · intro tvs blks res h; exfalso; simp only [sg4] at h; split at h <;> simp [s4] at h
  | k + 1 => by
    intro s hs
    simp only [E, env, List.mem_cons, List.not_mem_nil, or_false] at hs
    rcases hs with rfl | rfl | rfl | rfl | rfl
    · refine seg_of_ev (E := E k) (hE k) ⟨is.rvs⟩ (segs_ok k) ?_
      intro tvs blks res h
      simp only [sg0] at h
      split at h
      · exact (s0_ev.trans s0c_bind).trans h
      · simp at h
    · refine seg_of_ev (E := E k) (hE k) ⟨is.rvs⟩ (segs_ok k) ?_
      intro tvs blks res h
      simp only [sg1] at h
      split at h
      · exact (s1_ev.trans s1c_bind).trans h
      · simp at h
    · refine seg_of_ev (E := E k) (hE k) ⟨is.rvs⟩ (segs_ok k) ?_
      intro tvs blks res h
      simp only [sg2] at h
      split at h
      · exact (s2_ev.trans s2c_bind).trans h
      · simp at h
    · refine seg_of_ev (E := E k) (hE k) ⟨is.rvs⟩ (segs_ok k) ?_
      intro tvs blks res h
      simp only [sg3] at h
      split at h
      · exact (s3_ev.trans s3c_bind).trans h
      · simp at h
    · refine seg_of_ev (E := E k) (hE k) ⟨is.rvs⟩ (segs_ok k) ?_
      intro tvs blks res h
      simp only [sg4] at h
      split at h
      · exact (s4_ev.trans s4c_bind).trans h
      · simp at h
theorem ok (k : Nat) : CtOK prog 40 (ct (f k)) := by
  refine ct_of_ev (E := E k) is (hE k) (segs_ok k) rfl ?_
  intro tvs blks res h
  simp only [ct] at h
  split at h
  · exact (ev.trans c_bind).trans h
  · simp at h
end schema_table
namespace schema_Check
abbrev G : Type := ByteArray → Int → (List D_api_Col) → Option Int
def ct (g : G) : Ct where
  nin := 0
  mv := []
  F := fun tvs blks {β} K => match tvs, blks with
    | [.v (.agg [(.d .str a0), (.d (.int .i64) a1), (.d (.sl (.pair .str (.pair (.int .i64) (.pair .bool (.pair (.pair (.int .i64) (.pair (.int .i64) (.pair (.int .u64) (.pair .str .unit)))) .unit))))) a2)])], [] => (g a0 a1 a2).bind fun r => K ⟨.v (.one (.d (.int .i64) r)), []⟩
    | _, _ => none
  legit := fun _ _ K _ h => by split at h; exact (legit1 K h :); simp at h
noncomputable def env (g40 : schema_table.G)  : FEnv := { P := prog, ct := fun m => if m = 39 then some (schema_number.ct ) else if m = 40 then some (schema_table.ct g40) else none, N := 6, body := f29.body.getD .skip, rvs := [.tmp 2], rts := [32], nin := 0, rmv := [], segs := [] }
def c {β : Type} (g40 : schema_table.G)  (a0 : ByteArray) (a1 : Int) (a2 : List D_api_Col) (ret : Int → Option β) : Option β := ((g40 a0 a1 a2).bind fun r0 => (Sum.elim (fun r1 => (ret (r1.1))) (fun r2 => (ret ((0 : Int)))) r0))
theorem c_bind {β : Type} {g40 : schema_table.G}  {a0 : ByteArray} {a1 : Int} {a2 : List D_api_Col} {ret : Int → Option β} : c g40  a0 a1 a2 ret = (c g40  a0 a1 a2 some).bind ret := by
  simp only [c, bif_bind, sum_bind, oa, os, on, ofs]
theorem ev {g40 : schema_table.G}  {a0 : ByteArray} {a1 : Int} {a2 : List D_api_Col} : evAt (env g40 ) [] [0] [.v (.agg [(.d .str a0), (.d (.int .i64) a1), (.d (.sl T_api_Col) a2)])] [] some = c g40  a0 a1 a2 (fun r => some ⟨.v (.one (.d (.int .i64) r)), []⟩) := by
  kernel_rfl
def f (k : Nat) (a0 : ByteArray) (a1 : Int) (a2 : List D_api_Col) : Option Int := c  (schema_table.f k)  a0 a1 a2 some
theorem is {g40 : schema_table.G}  : FnIs (env g40 ) 29 f29 := ⟨func29, rfl, rfl, rfl, by decide⟩
theorem envok {g40 : schema_table.G}  (h39 : CtOK prog 39 (schema_number.ct )) (h40 : CtOK prog 40 (schema_table.ct g40)) : EnvOK (env g40 ).toEnv := by
  intro f c h
  simp only [env] at h
  split at h
  · rename_i e; subst e; cases h; exact h39
  split at h
  · rename_i e; subst e; cases h; exact h40
  simp at h
noncomputable abbrev E (k : Nat) : FEnv := env  (schema_table.f k) 
theorem hE (k : Nat) : EnvOK (E k).toEnv := envok (schema_number.ok k) (schema_table.ok k)
theorem ok (k : Nat) : CtOK prog 29 (ct (f k)) := by
  refine ct_of_ev (E := E k) is (hE k) (fun s hs => by simp [E, env] at hs) rfl ?_
  intro tvs blks res h
  simp only [ct] at h
  split at h
  · exact (ev.trans c_bind).trans h
  · simp at h
end schema_Check
namespace schema_fits
abbrev G : Type := ByteArray → Int → (List D_api_Col) → (List D_api_Value) → Option Int
def ct (g : G) : Ct where
  nin := 0
  mv := []
  F := fun tvs blks {β} K => match tvs, blks with
    | [.v (.agg [(.d .str a0), (.d (.int .i64) a1), (.d (.sl (.pair .str (.pair (.int .i64) (.pair .bool (.pair (.pair (.int .i64) (.pair (.int .i64) (.pair (.int .u64) (.pair .str .unit)))) .unit))))) a2)]), .v (.one (.d (.sl (.pair (.int .i64) (.pair (.int .i64) (.pair (.int .u64) (.pair .str .unit))))) a3))], [] => (g a0 a1 a2 a3).bind fun r => K ⟨.v (.one (.d (.int .i64) r)), []⟩
    | _, _ => none
  legit := fun _ _ K _ h => by split at h; exact (legit1 K h :); simp at h
abbrev S0 : Type := (List D_api_Value) → Int → Int → ByteArray → Int → (List D_api_Col) → Option Int
abbrev S1 : Type := (List D_api_Value) → Int → Int → Bool → ByteArray → Int → (List D_api_Col) → Option Int
abbrev S2 : Type := (List D_api_Value) → Int → Int → ByteArray → Int → (List D_api_Col) → Option Int
def sg0 (g : S0) : Seg where
  path := [4, 1, 0, 1]
  prep := []
  keep := [2, 9, 10, 11]
  F := fun tvs blks {β} K => match tvs, blks with
    | [.v (.one (.ptr 0 0)), .v (.one (.d (.sl (.pair (.int .i64) (.pair (.int .i64) (.pair (.int .u64) (.pair .str .unit))))) x0)), .v (.one (.d (.int .i64) x1)), .v (.one (.d (.int .i64) x2))], [some (.box [(.d .str x3), (.d (.int .i64) x4), (.d (.sl (.pair .str (.pair (.int .i64) (.pair .bool (.pair (.pair (.int .i64) (.pair (.int .i64) (.pair (.int .u64) (.pair .str .unit)))) .unit))))) x5)])] => (g x0 x1 x2 x3 x4 x5).bind fun r => K ⟨.v (.one (.d (.int .i64) r)), []⟩
    | _, _ => none
  legit := fun _ _ K _ h => by split at h; exact (legit1 K h :); simp at h
def sg1 (g : S1) : Seg where
  path := [1, 1, 1, 1, 4, 0, 1, 1, 5, 4, 1, 0, 1]
  prep := []
  keep := [2, 9, 10, 11, 40]
  F := fun tvs blks {β} K => match tvs, blks with
    | [.v (.one (.ptr 0 0)), .v (.one (.d (.sl (.pair (.int .i64) (.pair (.int .i64) (.pair (.int .u64) (.pair .str .unit))))) x0)), .v (.one (.d (.int .i64) x1)), .v (.one (.d (.int .i64) x2)), .v (.one (.d .bool x3))], [some (.box [(.d .str x4), (.d (.int .i64) x5), (.d (.sl (.pair .str (.pair (.int .i64) (.pair .bool (.pair (.pair (.int .i64) (.pair (.int .i64) (.pair (.int .u64) (.pair .str .unit)))) .unit))))) x6)])] => (g x0 x1 x2 x3 x4 x5 x6).bind fun r => K ⟨.v (.one (.d (.int .i64) r)), []⟩
    | _, _ => none
  legit := fun _ _ K _ h => by split at h; exact (legit1 K h :); simp at h
def sg2 (g : S2) : Seg where
  path := [1, 1, 1, 5, 4, 1, 0, 1]
  prep := []
  keep := [2, 9, 10, 11]
  F := fun tvs blks {β} K => match tvs, blks with
    | [.v (.one (.ptr 0 0)), .v (.one (.d (.sl (.pair (.int .i64) (.pair (.int .i64) (.pair (.int .u64) (.pair .str .unit))))) x0)), .v (.one (.d (.int .i64) x1)), .v (.one (.d (.int .i64) x2))], [some (.box [(.d .str x3), (.d (.int .i64) x4), (.d (.sl (.pair .str (.pair (.int .i64) (.pair .bool (.pair (.pair (.int .i64) (.pair (.int .i64) (.pair (.int .u64) (.pair .str .unit)))) .unit))))) x5)])] => (g x0 x1 x2 x3 x4 x5).bind fun r => K ⟨.v (.one (.d (.int .i64) r)), []⟩
    | _, _ => none
  legit := fun _ _ K _ h => by split at h; exact (legit1 K h :); simp at h
noncomputable def env (g42 : values_Check.G) (s0 : S0) (s1 : S1) (s2 : S2) : FEnv := { P := prog, ct := fun m => if m = 42 then some (values_Check.ct g42) else none, N := 42, body := f41.body.getD .skip, rvs := [.tmp 4], rts := [32], nin := 0, rmv := [], segs := [sg0 s0, sg1 s1, sg2 s2] }
def c {β : Type} (g42 : values_Check.G) (s0 : S0) (s1 : S1) (s2 : S2) (a0 : ByteArray) (a1 : Int) (a2 : List D_api_Col) (a3 : List D_api_Value) (ret : Int → Option β) : Option β := ((s0 a3 ((List.length a3) : Int) (0 : Int) a0 a1 a2).bind ret)
def s0c {β : Type} (g42 : values_Check.G) (s0 : S0) (s1 : S1) (s2 : S2) (x0 : List D_api_Value) (x1 : Int) (x2 : Int) (x3 : ByteArray) (x4 : Int) (x5 : List D_api_Col) (ret : Int → Option β) : Option β := (bif (decide (x2 < x1)) then (bif ((decide ((0 : Int) ≤ x2)) && (decide (x2 < ((List.length x0) : Int)))) then ((g42 (elem T_api_Value x0 x2).1 (elem T_api_Value x0 x2).2.1 (elem T_api_Value x0 x2).2.2.1 (elem T_api_Value x0 x2).2.2.2.1).bind fun r0 => (bif (r0 != (0 : Int)) then (ret (r0)) else (bif ((decide ((0 : Int) ≤ x2)) && (decide (x2 < ((List.length x5) : Int)))) then (bif ((elem T_api_Value x0 x2).1 != (elem T_api_Col x5 x2).2.1) then (bif ((elem T_api_Value x0 x2).1 != (0 : Int)) then ((s1 x0 x1 x2 true x3 x4 x5).bind ret) else ((s1 x0 x1 x2 (!(elem T_api_Col x5 x2).2.2.1) x3 x4 x5).bind ret)) else ((s1 x0 x1 x2 false x3 x4 x5).bind ret)) else none))) else none) else (ret ((0 : Int))))
def s1c {β : Type} (g42 : values_Check.G) (s0 : S0) (s1 : S1) (s2 : S2) (x0 : List D_api_Value) (x1 : Int) (x2 : Int) (x3 : Bool) (x4 : ByteArray) (x5 : Int) (x6 : List D_api_Col) (ret : Int → Option β) : Option β := (bif x3 then (ret ((11 : Int))) else ((s2 x0 x1 x2 x4 x5 x6).bind ret))
def s2c {β : Type} (g42 : values_Check.G) (s0 : S0) (s1 : S1) (s2 : S2) (x0 : List D_api_Value) (x1 : Int) (x2 : Int) (x3 : ByteArray) (x4 : Int) (x5 : List D_api_Col) (ret : Int → Option β) : Option β := ((s0 x0 x1 (IntKind.wrap IntKind.i64 (x2 + (1 : Int))) x3 x4 x5).bind ret)
theorem c_bind {β : Type} {g42 : values_Check.G} {s0 : S0} {s1 : S1} {s2 : S2} {a0 : ByteArray} {a1 : Int} {a2 : List D_api_Col} {a3 : List D_api_Value} {ret : Int → Option β} : c g42 s0 s1 s2 a0 a1 a2 a3 ret = (c g42 s0 s1 s2 a0 a1 a2 a3 some).bind ret := by
  simp only [c, bif_bind, sum_bind, oa, os, on, ofs]
theorem s0c_bind {β : Type} {g42 : values_Check.G} {s0 : S0} {s1 : S1} {s2 : S2} {x0 : List D_api_Value} {x1 : Int} {x2 : Int} {x3 : ByteArray} {x4 : Int} {x5 : List D_api_Col} {ret : Int → Option β} : s0c g42 s0 s1 s2 x0 x1 x2 x3 x4 x5 ret = (s0c g42 s0 s1 s2 x0 x1 x2 x3 x4 x5 some).bind ret := by
  simp only [s0c, bif_bind, sum_bind, oa, os, on, ofs]
theorem s1c_bind {β : Type} {g42 : values_Check.G} {s0 : S0} {s1 : S1} {s2 : S2} {x0 : List D_api_Value} {x1 : Int} {x2 : Int} {x3 : Bool} {x4 : ByteArray} {x5 : Int} {x6 : List D_api_Col} {ret : Int → Option β} : s1c g42 s0 s1 s2 x0 x1 x2 x3 x4 x5 x6 ret = (s1c g42 s0 s1 s2 x0 x1 x2 x3 x4 x5 x6 some).bind ret := by
  simp only [s1c, bif_bind, sum_bind, oa, os, on, ofs]
theorem s2c_bind {β : Type} {g42 : values_Check.G} {s0 : S0} {s1 : S1} {s2 : S2} {x0 : List D_api_Value} {x1 : Int} {x2 : Int} {x3 : ByteArray} {x4 : Int} {x5 : List D_api_Col} {ret : Int → Option β} : s2c g42 s0 s1 s2 x0 x1 x2 x3 x4 x5 ret = (s2c g42 s0 s1 s2 x0 x1 x2 x3 x4 x5 some).bind ret := by
  simp only [s2c, bif_bind, sum_bind, oa, os, on, ofs]
theorem ev {g42 : values_Check.G} {s0 : S0} {s1 : S1} {s2 : S2} {a0 : ByteArray} {a1 : Int} {a2 : List D_api_Col} {a3 : List D_api_Value} : evAt (env g42 s0 s1 s2) [] [0, 1] [.v (.agg [(.d .str a0), (.d (.int .i64) a1), (.d (.sl T_api_Col) a2)]), .v (.one (.d (.sl T_api_Value) a3))] [] some = c g42 s0 s1 s2 a0 a1 a2 a3 (fun r => some ⟨.v (.one (.d (.int .i64) r)), []⟩) := by
  kernel_rfl
theorem s0_ev {g42 : values_Check.G} {s0 : S0} {s1 : S1} {s2 : S2} {x0 : List D_api_Value} {x1 : Int} {x2 : Int} {x3 : ByteArray} {x4 : Int} {x5 : List D_api_Col} : evAt (env g42 s0 s1 s2) [4, 1, 0, 1] [2, 9, 10, 11] [.v (.one (.ptr 0 0)), .v (.one (.d (.sl T_api_Value) x0)), .v (.one (.d (.int .i64) x1)), .v (.one (.d (.int .i64) x2))] [some (.box [(.d .str x3), (.d (.int .i64) x4), (.d (.sl T_api_Col) x5)])] some = s0c g42 s0 s1 s2 x0 x1 x2 x3 x4 x5 (fun r => some ⟨.v (.one (.d (.int .i64) r)), []⟩) := by
  kernel_rfl
theorem s1_ev {g42 : values_Check.G} {s0 : S0} {s1 : S1} {s2 : S2} {x0 : List D_api_Value} {x1 : Int} {x2 : Int} {x3 : Bool} {x4 : ByteArray} {x5 : Int} {x6 : List D_api_Col} : evAt (env g42 s0 s1 s2) [1, 1, 1, 1, 4, 0, 1, 1, 5, 4, 1, 0, 1] [2, 9, 10, 11, 40] [.v (.one (.ptr 0 0)), .v (.one (.d (.sl T_api_Value) x0)), .v (.one (.d (.int .i64) x1)), .v (.one (.d (.int .i64) x2)), .v (.one (.d .bool x3))] [some (.box [(.d .str x4), (.d (.int .i64) x5), (.d (.sl T_api_Col) x6)])] some = s1c g42 s0 s1 s2 x0 x1 x2 x3 x4 x5 x6 (fun r => some ⟨.v (.one (.d (.int .i64) r)), []⟩) := by
  kernel_rfl
theorem s2_ev {g42 : values_Check.G} {s0 : S0} {s1 : S1} {s2 : S2} {x0 : List D_api_Value} {x1 : Int} {x2 : Int} {x3 : ByteArray} {x4 : Int} {x5 : List D_api_Col} : evAt (env g42 s0 s1 s2) [1, 1, 1, 5, 4, 1, 0, 1] [2, 9, 10, 11] [.v (.one (.ptr 0 0)), .v (.one (.d (.sl T_api_Value) x0)), .v (.one (.d (.int .i64) x1)), .v (.one (.d (.int .i64) x2))] [some (.box [(.d .str x3), (.d (.int .i64) x4), (.d (.sl T_api_Col) x5)])] some = s2c g42 s0 s1 s2 x0 x1 x2 x3 x4 x5 (fun r => some ⟨.v (.one (.d (.int .i64) r)), []⟩) := by
  kernel_rfl
mutual
def s0 : Nat → (List D_api_Value) → Int → Int → ByteArray → Int → (List D_api_Col) → Option Int
  | 0, _, _, _, _, _, _ => none
  | k + 1, x0, x1, x2, x3, x4, x5 => s0c (values_Check.f k) (s0 k) (s1 k) (s2 k) x0 x1 x2 x3 x4 x5 some
def s1 : Nat → (List D_api_Value) → Int → Int → Bool → ByteArray → Int → (List D_api_Col) → Option Int
  | 0, _, _, _, _, _, _, _ => none
  | k + 1, x0, x1, x2, x3, x4, x5, x6 => s1c (values_Check.f k) (s0 k) (s1 k) (s2 k) x0 x1 x2 x3 x4 x5 x6 some
def s2 : Nat → (List D_api_Value) → Int → Int → ByteArray → Int → (List D_api_Col) → Option Int
  | 0, _, _, _, _, _, _ => none
  | k + 1, x0, x1, x2, x3, x4, x5 => s2c (values_Check.f k) (s0 k) (s1 k) (s2 k) x0 x1 x2 x3 x4 x5 some
end
def f (k : Nat) (a0 : ByteArray) (a1 : Int) (a2 : List D_api_Col) (a3 : List D_api_Value) : Option Int := c (values_Check.f k) (s0 k) (s1 k) (s2 k) a0 a1 a2 a3 some
theorem is {g42 : values_Check.G} {s0 : S0} {s1 : S1} {s2 : S2} : FnIs (env g42 s0 s1 s2) 41 f41 := ⟨func41, rfl, rfl, rfl, by decide⟩
theorem envok {g42 : values_Check.G} {s0 : S0} {s1 : S1} {s2 : S2} (h42 : CtOK prog 42 (values_Check.ct g42)) : EnvOK (env g42 s0 s1 s2).toEnv := by
  intro f c h
  simp only [env] at h
  split at h
  · rename_i e; subst e; cases h; exact h42
  simp at h
noncomputable abbrev E (k : Nat) : FEnv := env (values_Check.f k) (s0 k) (s1 k) (s2 k)
theorem hE (k : Nat) : EnvOK (E k).toEnv := envok (values_Check.ok k)
theorem segs_ok : ∀ k, ∀ s ∈ (E k).segs, SegOK (E k) f41 s
  | 0 => by
    intro s hs
    simp only [E, env, List.mem_cons, List.not_mem_nil, or_false] at hs
    rcases hs with rfl | rfl | rfl
    · intro tvs blks res h; exfalso; simp only [sg0] at h; split at h <;> simp [s0] at h
    · intro tvs blks res h; exfalso; simp only [sg1] at h; split at h <;> simp [s1] at h
    · intro tvs blks res h; exfalso; simp only [sg2] at h; split at h <;> simp [s2] at h
  | k + 1 => by
    intro s hs
    simp only [E, env, List.mem_cons, List.not_mem_nil, or_false] at hs
    rcases hs with rfl | rfl | rfl
    · refine seg_of_ev (E := E k) (hE k) ⟨is.rvs⟩ (segs_ok k) ?_
      intro tvs blks res h
      simp only [sg0] at h
      split at h
      · exact (s0_ev.trans s0c_bind).trans h
      · simp at h
    · refine seg_of_ev (E := E k) (hE k) ⟨is.rvs⟩ (segs_ok k) ?_
      intro tvs blks res h
      simp only [sg1] at h
      split at h
      · exact (s1_ev.trans s1c_bind).trans h
      · simp at h
    · refine seg_of_ev (E := E k) (hE k) ⟨is.rvs⟩ (segs_ok k) ?_
      intro tvs blks res h
      simp only [sg2] at h
      split at h
      · exact (s2_ev.trans s2c_bind).trans h
      · simp at h
theorem ok (k : Nat) : CtOK prog 41 (ct (f k)) := by
  refine ct_of_ev (E := E k) is (hE k) (segs_ok k) rfl ?_
  intro tvs blks res h
  simp only [ct] at h
  split at h
  · exact (ev.trans c_bind).trans h
  · simp at h
end schema_fits
namespace schema_Fits
abbrev G : Type := ByteArray → Int → (List D_api_Col) → (List D_api_Value) → Option Int
def ct (g : G) : Ct where
  nin := 0
  mv := []
  F := fun tvs blks {β} K => match tvs, blks with
    | [.v (.agg [(.d .str a0), (.d (.int .i64) a1), (.d (.sl (.pair .str (.pair (.int .i64) (.pair .bool (.pair (.pair (.int .i64) (.pair (.int .i64) (.pair (.int .u64) (.pair .str .unit)))) .unit))))) a2)]), .v (.one (.d (.sl (.pair (.int .i64) (.pair (.int .i64) (.pair (.int .u64) (.pair .str .unit))))) a3))], [] => (g a0 a1 a2 a3).bind fun r => K ⟨.v (.one (.d (.int .i64) r)), []⟩
    | _, _ => none
  legit := fun _ _ K _ h => by split at h; exact (legit1 K h :); simp at h
noncomputable def env (g29 : schema_Check.G) (g41 : schema_fits.G)  : FEnv := { P := prog, ct := fun m => if m = 29 then some (schema_Check.ct g29) else if m = 41 then some (schema_fits.ct g41) else none, N := 20, body := f30.body.getD .skip, rvs := [.tmp 4], rts := [32], nin := 0, rmv := [], segs := [] }
def c {β : Type} (g29 : schema_Check.G) (g41 : schema_fits.G)  (a0 : ByteArray) (a1 : Int) (a2 : List D_api_Col) (a3 : List D_api_Value) (ret : Int → Option β) : Option β := ((g29 a0 a1 a2).bind fun r0 => (bif (r0 != (0 : Int)) then (ret (r0)) else (bif (((List.length a3) : Int) != ((List.length a2) : Int)) then (ret ((11 : Int))) else ((g41 a0 a1 a2 a3).bind fun r1 => (ret (r1))))))
theorem c_bind {β : Type} {g29 : schema_Check.G} {g41 : schema_fits.G}  {a0 : ByteArray} {a1 : Int} {a2 : List D_api_Col} {a3 : List D_api_Value} {ret : Int → Option β} : c g29 g41  a0 a1 a2 a3 ret = (c g29 g41  a0 a1 a2 a3 some).bind ret := by
  simp only [c, bif_bind, sum_bind, oa, os, on, ofs]
theorem ev {g29 : schema_Check.G} {g41 : schema_fits.G}  {a0 : ByteArray} {a1 : Int} {a2 : List D_api_Col} {a3 : List D_api_Value} : evAt (env g29 g41 ) [] [0, 1] [.v (.agg [(.d .str a0), (.d (.int .i64) a1), (.d (.sl T_api_Col) a2)]), .v (.one (.d (.sl T_api_Value) a3))] [] some = c g29 g41  a0 a1 a2 a3 (fun r => some ⟨.v (.one (.d (.int .i64) r)), []⟩) := by
  kernel_rfl
def f (k : Nat) (a0 : ByteArray) (a1 : Int) (a2 : List D_api_Col) (a3 : List D_api_Value) : Option Int := c (schema_Check.f k) (schema_fits.f k)  a0 a1 a2 a3 some
theorem is {g29 : schema_Check.G} {g41 : schema_fits.G}  : FnIs (env g29 g41 ) 30 f30 := ⟨func30, rfl, rfl, rfl, by decide⟩
theorem envok {g29 : schema_Check.G} {g41 : schema_fits.G}  (h29 : CtOK prog 29 (schema_Check.ct g29)) (h41 : CtOK prog 41 (schema_fits.ct g41)) : EnvOK (env g29 g41 ).toEnv := by
  intro f c h
  simp only [env] at h
  split at h
  · rename_i e; subst e; cases h; exact h29
  split at h
  · rename_i e; subst e; cases h; exact h41
  simp at h
noncomputable abbrev E (k : Nat) : FEnv := env (schema_Check.f k) (schema_fits.f k) 
theorem hE (k : Nat) : EnvOK (E k).toEnv := envok (schema_Check.ok k) (schema_fits.ok k)
theorem ok (k : Nat) : CtOK prog 30 (ct (f k)) := by
  refine ct_of_ev (E := E k) is (hE k) (fun s hs => by simp [E, env] at hs) rfl ?_
  intro tvs blks res h
  simp only [ct] at h
  split at h
  · exact (ev.trans c_bind).trans h
  · simp at h
end schema_Fits
end Go.Proofs.YtdbbkmmillnaiaaGreatDoor.Aev
