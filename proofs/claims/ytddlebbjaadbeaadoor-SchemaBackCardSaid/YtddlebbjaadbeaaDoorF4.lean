/- By a program of this session (AEV): functions of the program as plain functions, and that the machine does what they say. -/
import Derived.Test.YtddlebbjaadbeaaDoorTys
import Derived.Test.YtddlebbjaadbeaaDoorProg
import Derived.Laws.Externs
import Derived.Lib.Bytealg
import Derived.Test.YtddlebbjaadbeaaDoorF0
import Derived.Test.YtddlebbjaadbeaaDoorF2
import Derived.Test.YtddlebbjaadbeaaDoorF3
namespace Go.Proofs.YtddlebbjaadbeaaDoor.Aev
set_option linter.unusedVariables false
set_option linter.unusedSimpArgs false
set_option maxRecDepth 100000
set_option maxHeartbeats 4000000
open Go
/-! ### schema_table: function 29 -/
abbrev G_schema_table : Type := ByteArray → Int → (List D_api_Col) → Option (((Int × Unit)) ⊕ Unit)
def ct_schema_table (g : G_schema_table) : Ct where
  nin := 0
  mv := []
  F := fun tvs blks {β} K => match tvs, blks with
    | [.v (.agg [(.d .str a0), (.d (.int .i64) a1), (.d (.sl (.pair .str (.pair (.int .i64) (.pair .bool (.pair (.pair (.int .i64) (.pair (.int .i64) (.pair (.int .u64) (.pair .str .unit)))) .unit))))) a2)])], [] => (g a0 a1 a2).bind fun r => Sum.elim (fun r => K ⟨.v (.one (.ifc 78 true (.pair (.int .i64) .unit) r)), []⟩) (fun r => K ⟨.v (.one (.raw (.nilIface))), []⟩) r
    | _, _ => none
  legit := fun tvs blks K r h => by
    split at h
    · obtain ⟨x, hx, hk⟩ := Option.bind_eq_some_iff.1 h
      rcases x with x | x <;> (simp only [Sum.elim_inl, Sum.elim_inr] at hk; exact ⟨_, by simp only [hx, Option.bind_some, Sum.elim_inl, Sum.elim_inr], hk⟩)
    · simp at h
abbrev S_schema_table_0 : Type := Bool → ByteArray → Int → (List D_api_Col) → Option (((Int × Unit)) ⊕ Unit)
abbrev S_schema_table_1 : Type := ByteArray → Int → (List D_api_Col) → Option (((Int × Unit)) ⊕ Unit)
abbrev S_schema_table_2 : Type := Bool → ByteArray → Int → (List D_api_Col) → Option (((Int × Unit)) ⊕ Unit)
abbrev S_schema_table_3 : Type := ByteArray → Int → (List D_api_Col) → Option (((Int × Unit)) ⊕ Unit)
abbrev S_schema_table_4 : Type := (List D_api_Col) → Int → Int → ByteArray → Int → (List D_api_Col) → Option (((Int × Unit)) ⊕ Unit)
def seg_schema_table_0 (g : S_schema_table_0) : Seg where
  path := [1, 0, 1, 1]
  prep := []
  keep := [1, 24]
  F := fun tvs blks {β} K => match tvs, blks with
    | [.v (.one (.ptr 0 0)), .v (.one (.d .bool x0))], [some (.box [(.d .str x1), (.d (.int .i64) x2), (.d (.sl (.pair .str (.pair (.int .i64) (.pair .bool (.pair (.pair (.int .i64) (.pair (.int .i64) (.pair (.int .u64) (.pair .str .unit)))) .unit))))) x3)])] => (g x0 x1 x2 x3).bind fun r => Sum.elim (fun r => K ⟨.v (.one (.ifc 78 true (.pair (.int .i64) .unit) r)), []⟩) (fun r => K ⟨.v (.one (.raw (.nilIface))), []⟩) r
    | _, _ => none
  legit := fun tvs blks K r h => by
    split at h
    · obtain ⟨x, hx, hk⟩ := Option.bind_eq_some_iff.1 h
      rcases x with x | x <;> (simp only [Sum.elim_inl, Sum.elim_inr] at hk; exact ⟨_, by simp only [hx, Option.bind_some, Sum.elim_inl, Sum.elim_inr], hk⟩)
    · simp at h
def seg_schema_table_1 (g : S_schema_table_1) : Seg where
  path := [1, 1, 1]
  prep := []
  keep := [1]
  F := fun tvs blks {β} K => match tvs, blks with
    | [.v (.one (.ptr 0 0))], [some (.box [(.d .str x0), (.d (.int .i64) x1), (.d (.sl (.pair .str (.pair (.int .i64) (.pair .bool (.pair (.pair (.int .i64) (.pair (.int .i64) (.pair (.int .u64) (.pair .str .unit)))) .unit))))) x2)])] => (g x0 x1 x2).bind fun r => Sum.elim (fun r => K ⟨.v (.one (.ifc 78 true (.pair (.int .i64) .unit) r)), []⟩) (fun r => K ⟨.v (.one (.raw (.nilIface))), []⟩) r
    | _, _ => none
  legit := fun tvs blks K r h => by
    split at h
    · obtain ⟨x, hx, hk⟩ := Option.bind_eq_some_iff.1 h
      rcases x with x | x <;> (simp only [Sum.elim_inl, Sum.elim_inr] at hk; exact ⟨_, by simp only [hx, Option.bind_some, Sum.elim_inl, Sum.elim_inr], hk⟩)
    · simp at h
def seg_schema_table_2 (g : S_schema_table_2) : Seg where
  path := [1, 0, 1, 1, 1]
  prep := []
  keep := [1, 38]
  F := fun tvs blks {β} K => match tvs, blks with
    | [.v (.one (.ptr 0 0)), .v (.one (.d .bool x0))], [some (.box [(.d .str x1), (.d (.int .i64) x2), (.d (.sl (.pair .str (.pair (.int .i64) (.pair .bool (.pair (.pair (.int .i64) (.pair (.int .i64) (.pair (.int .u64) (.pair .str .unit)))) .unit))))) x3)])] => (g x0 x1 x2 x3).bind fun r => Sum.elim (fun r => K ⟨.v (.one (.ifc 78 true (.pair (.int .i64) .unit) r)), []⟩) (fun r => K ⟨.v (.one (.raw (.nilIface))), []⟩) r
    | _, _ => none
  legit := fun tvs blks K r h => by
    split at h
    · obtain ⟨x, hx, hk⟩ := Option.bind_eq_some_iff.1 h
      rcases x with x | x <;> (simp only [Sum.elim_inl, Sum.elim_inr] at hk; exact ⟨_, by simp only [hx, Option.bind_some, Sum.elim_inl, Sum.elim_inr], hk⟩)
    · simp at h
def seg_schema_table_3 (g : S_schema_table_3) : Seg where
  path := [1, 1, 1, 1]
  prep := []
  keep := [1]
  F := fun tvs blks {β} K => match tvs, blks with
    | [.v (.one (.ptr 0 0))], [some (.box [(.d .str x0), (.d (.int .i64) x1), (.d (.sl (.pair .str (.pair (.int .i64) (.pair .bool (.pair (.pair (.int .i64) (.pair (.int .i64) (.pair (.int .u64) (.pair .str .unit)))) .unit))))) x2)])] => (g x0 x1 x2).bind fun r => Sum.elim (fun r => K ⟨.v (.one (.ifc 78 true (.pair (.int .i64) .unit) r)), []⟩) (fun r => K ⟨.v (.one (.raw (.nilIface))), []⟩) r
    | _, _ => none
  legit := fun tvs blks K r h => by
    split at h
    · obtain ⟨x, hx, hk⟩ := Option.bind_eq_some_iff.1 h
      rcases x with x | x <;> (simp only [Sum.elim_inl, Sum.elim_inr] at hk; exact ⟨_, by simp only [hx, Option.bind_some, Sum.elim_inl, Sum.elim_inr], hk⟩)
    · simp at h
def seg_schema_table_4 (g : S_schema_table_4) : Seg where
  path := [4, 1, 0, 1, 1, 1, 1]
  prep := []
  keep := [1, 42, 43, 44]
  F := fun tvs blks {β} K => match tvs, blks with
    | [.v (.one (.ptr 0 0)), .v (.one (.d (.sl (.pair .str (.pair (.int .i64) (.pair .bool (.pair (.pair (.int .i64) (.pair (.int .i64) (.pair (.int .u64) (.pair .str .unit)))) .unit))))) x0)), .v (.one (.d (.int .i64) x1)), .v (.one (.d (.int .i64) x2))], [some (.box [(.d .str x3), (.d (.int .i64) x4), (.d (.sl (.pair .str (.pair (.int .i64) (.pair .bool (.pair (.pair (.int .i64) (.pair (.int .i64) (.pair (.int .u64) (.pair .str .unit)))) .unit))))) x5)])] => (g x0 x1 x2 x3 x4 x5).bind fun r => Sum.elim (fun r => K ⟨.v (.one (.ifc 78 true (.pair (.int .i64) .unit) r)), []⟩) (fun r => K ⟨.v (.one (.raw (.nilIface))), []⟩) r
    | _, _ => none
  legit := fun tvs blks K r h => by
    split at h
    · obtain ⟨x, hx, hk⟩ := Option.bind_eq_some_iff.1 h
      rcases x with x | x <;> (simp only [Sum.elim_inl, Sum.elim_inr] at hk; exact ⟨_, by simp only [hx, Option.bind_some, Sum.elim_inl, Sum.elim_inr], hk⟩)
    · simp at h
noncomputable def env_schema_table (g26 : G_schema_col) (g33 : G_schema_words) (g49 : G_names_Check) (g53 : G_names_Unlike) (g54 : G_api_Col_54) (g55 : G_schema_table_1) (s0 : S_schema_table_0) (s1 : S_schema_table_1) (s2 : S_schema_table_2) (s3 : S_schema_table_3) (s4 : S_schema_table_4) : FEnv := { P := Go.Proofs.Tryd.prog, ct := fun m => if m = 26 then some (ct_schema_col g26) else if m = 33 then some (ct_schema_words g33) else if m = 49 then some (ct_names_Check g49) else if m = 53 then some (ct_names_Unlike g53) else if m = 54 then some (ct_api_Col_54 g54) else if m = 55 then some (ct_schema_table_1 g55) else none, N := 69, body := Go.Proofs.Tryd.f29.body.getD .skip, rvs := [.tmp 2], rts := [55], nin := 0, rmv := [], segs := [seg_schema_table_0 s0, seg_schema_table_1 s1, seg_schema_table_2 s2, seg_schema_table_3 s3, seg_schema_table_4 s4] }
def schema_table.c {β : Type} (g26 : G_schema_col) (g33 : G_schema_words) (g49 : G_names_Check) (g53 : G_names_Unlike) (g54 : G_api_Col_54) (g55 : G_schema_table_1) (s0 : S_schema_table_0) (s1 : S_schema_table_1) (s2 : S_schema_table_2) (s3 : S_schema_table_3) (s4 : S_schema_table_4) (a0 : ByteArray) (a1 : Int) (a2 : List D_api_Col) (ret : (((Int × Unit)) ⊕ Unit) → Option β) : Option β := ((g49 a0).bind fun r0 => (bif (r0 != (0 : Int)) then (ret (.inl ((r0, ())))) else (bif (decide (((List.length a2) : Int) < (1 : Int))) then ((s0 true a0 a1 a2).bind ret) else ((s0 (decide (((List.length a2) : Int) > (8 : Int))) a0 a1 a2).bind ret))))
def schema_table.s0c {β : Type} (g26 : G_schema_col) (g33 : G_schema_words) (g49 : G_names_Check) (g53 : G_names_Unlike) (g54 : G_api_Col_54) (g55 : G_schema_table_1) (s0 : S_schema_table_0) (s1 : S_schema_table_1) (s2 : S_schema_table_2) (s3 : S_schema_table_3) (s4 : S_schema_table_4) (x0 : Bool) (x1 : ByteArray) (x2 : Int) (x3 : List D_api_Col) (ret : (((Int × Unit)) ⊕ Unit) → Option β) : Option β := (bif x0 then (ret (.inl (((2 : Int), ())))) else ((s1 x1 x2 x3).bind ret))
def schema_table.s1c {β : Type} (g26 : G_schema_col) (g33 : G_schema_words) (g49 : G_names_Check) (g53 : G_names_Unlike) (g54 : G_api_Col_54) (g55 : G_schema_table_1) (s0 : S_schema_table_0) (s1 : S_schema_table_1) (s2 : S_schema_table_2) (s3 : S_schema_table_3) (s4 : S_schema_table_4) (x0 : ByteArray) (x1 : Int) (x2 : List D_api_Col) (ret : (((Int × Unit)) ⊕ Unit) → Option β) : Option β := (bif (decide (x1 < (1 : Int))) then ((s2 true x0 x1 x2).bind ret) else ((s2 (decide (x1 > (if (((List.length x2) : Int) < (3 : Int)) then ((List.length x2) : Int) else (3 : Int)))) x0 x1 x2).bind ret))
def schema_table.s2c {β : Type} (g26 : G_schema_col) (g33 : G_schema_words) (g49 : G_names_Check) (g53 : G_names_Unlike) (g54 : G_api_Col_54) (g55 : G_schema_table_1) (s0 : S_schema_table_0) (s1 : S_schema_table_1) (s2 : S_schema_table_2) (s3 : S_schema_table_3) (s4 : S_schema_table_4) (x0 : Bool) (x1 : ByteArray) (x2 : Int) (x3 : List D_api_Col) (ret : (((Int × Unit)) ⊕ Unit) → Option β) : Option β := (bif x0 then (ret (.inl (((1 : Int), ())))) else ((s3 x1 x2 x3).bind ret))
def schema_table.s3c {β : Type} (g26 : G_schema_col) (g33 : G_schema_words) (g49 : G_names_Check) (g53 : G_names_Unlike) (g54 : G_api_Col_54) (g55 : G_schema_table_1) (s0 : S_schema_table_0) (s1 : S_schema_table_1) (s2 : S_schema_table_2) (s3 : S_schema_table_3) (s4 : S_schema_table_4) (x0 : ByteArray) (x1 : Int) (x2 : List D_api_Col) (ret : (((Int × Unit)) ⊕ Unit) → Option β) : Option β := ((s4 x2 ((List.length x2) : Int) (0 : Int) x0 x1 x2).bind ret)
def schema_table.s4c {β : Type} (g26 : G_schema_col) (g33 : G_schema_words) (g49 : G_names_Check) (g53 : G_names_Unlike) (g54 : G_api_Col_54) (g55 : G_schema_table_1) (s0 : S_schema_table_0) (s1 : S_schema_table_1) (s2 : S_schema_table_2) (s3 : S_schema_table_3) (s4 : S_schema_table_4) (x0 : List D_api_Col) (x1 : Int) (x2 : Int) (x3 : ByteArray) (x4 : Int) (x5 : List D_api_Col) (ret : (((Int × Unit)) ⊕ Unit) → Option β) : Option β := (bif (decide (x2 < x1)) then (bif ((decide ((0 : Int) ≤ x2)) && (decide (x2 < ((List.length x0) : Int)))) then ((g26 (elem T_api_Col x0 x2).1 (elem T_api_Col x0 x2).2.1 (elem T_api_Col x0 x2).2.2.1 (elem T_api_Col x0 x2).2.2.2.1.1 (elem T_api_Col x0 x2).2.2.2.1.2.1 (elem T_api_Col x0 x2).2.2.2.1.2.2.1 (elem T_api_Col x0 x2).2.2.2.1.2.2.2.1).bind fun r0 => (Sum.elim (fun r1 => (ret (.inl (r1)))) (fun r2 => ((s4 x0 x1 (IntKind.wrap IntKind.i64 (x2 + (1 : Int))) x3 x4 x5).bind ret)) r0)) else none) else ((g33 x5).bind fun r3 => ((g53 r3).bind fun r4 => (bif (!r4) then (ret (.inl (((12 : Int), ())))) else (bif ((true && (decide ((0 : Int) ≤ x4))) && (decide (x4 ≤ ((List.length x5) : Int)))) then ((g54 (List.take ((Int.toNat x4) - (0 : Nat)) (List.drop (0 : Nat) x5))).bind fun r5 => (bif r5 then (ret (.inl (((11 : Int), ())))) else (ret (.inr ())))) else none)))))
theorem schema_table.c_bind {β : Type} {g26 : G_schema_col} {g33 : G_schema_words} {g49 : G_names_Check} {g53 : G_names_Unlike} {g54 : G_api_Col_54} {g55 : G_schema_table_1} {s0 : S_schema_table_0} {s1 : S_schema_table_1} {s2 : S_schema_table_2} {s3 : S_schema_table_3} {s4 : S_schema_table_4} {a0 : ByteArray} {a1 : Int} {a2 : List D_api_Col} {ret : (((Int × Unit)) ⊕ Unit) → Option β} : schema_table.c g26 g33 g49 g53 g54 g55 s0 s1 s2 s3 s4 a0 a1 a2 ret = (schema_table.c g26 g33 g49 g53 g54 g55 s0 s1 s2 s3 s4 a0 a1 a2 some).bind ret := by
  simp only [schema_table.c, bif_bind, sum_bind, Option.bind_assoc, Option.bind_some, Option.bind_none, Option.bind_fun_some]
theorem schema_table.s0c_bind {β : Type} {g26 : G_schema_col} {g33 : G_schema_words} {g49 : G_names_Check} {g53 : G_names_Unlike} {g54 : G_api_Col_54} {g55 : G_schema_table_1} {s0 : S_schema_table_0} {s1 : S_schema_table_1} {s2 : S_schema_table_2} {s3 : S_schema_table_3} {s4 : S_schema_table_4} {x0 : Bool} {x1 : ByteArray} {x2 : Int} {x3 : List D_api_Col} {ret : (((Int × Unit)) ⊕ Unit) → Option β} : schema_table.s0c g26 g33 g49 g53 g54 g55 s0 s1 s2 s3 s4 x0 x1 x2 x3 ret = (schema_table.s0c g26 g33 g49 g53 g54 g55 s0 s1 s2 s3 s4 x0 x1 x2 x3 some).bind ret := by
  simp only [schema_table.s0c, bif_bind, sum_bind, Option.bind_assoc, Option.bind_some, Option.bind_none, Option.bind_fun_some]
theorem schema_table.s1c_bind {β : Type} {g26 : G_schema_col} {g33 : G_schema_words} {g49 : G_names_Check} {g53 : G_names_Unlike} {g54 : G_api_Col_54} {g55 : G_schema_table_1} {s0 : S_schema_table_0} {s1 : S_schema_table_1} {s2 : S_schema_table_2} {s3 : S_schema_table_3} {s4 : S_schema_table_4} {x0 : ByteArray} {x1 : Int} {x2 : List D_api_Col} {ret : (((Int × Unit)) ⊕ Unit) → Option β} : schema_table.s1c g26 g33 g49 g53 g54 g55 s0 s1 s2 s3 s4 x0 x1 x2 ret = (schema_table.s1c g26 g33 g49 g53 g54 g55 s0 s1 s2 s3 s4 x0 x1 x2 some).bind ret := by
  simp only [schema_table.s1c, bif_bind, sum_bind, Option.bind_assoc, Option.bind_some, Option.bind_none, Option.bind_fun_some]
theorem schema_table.s2c_bind {β : Type} {g26 : G_schema_col} {g33 : G_schema_words} {g49 : G_names_Check} {g53 : G_names_Unlike} {g54 : G_api_Col_54} {g55 : G_schema_table_1} {s0 : S_schema_table_0} {s1 : S_schema_table_1} {s2 : S_schema_table_2} {s3 : S_schema_table_3} {s4 : S_schema_table_4} {x0 : Bool} {x1 : ByteArray} {x2 : Int} {x3 : List D_api_Col} {ret : (((Int × Unit)) ⊕ Unit) → Option β} : schema_table.s2c g26 g33 g49 g53 g54 g55 s0 s1 s2 s3 s4 x0 x1 x2 x3 ret = (schema_table.s2c g26 g33 g49 g53 g54 g55 s0 s1 s2 s3 s4 x0 x1 x2 x3 some).bind ret := by
  simp only [schema_table.s2c, bif_bind, sum_bind, Option.bind_assoc, Option.bind_some, Option.bind_none, Option.bind_fun_some]
theorem schema_table.s3c_bind {β : Type} {g26 : G_schema_col} {g33 : G_schema_words} {g49 : G_names_Check} {g53 : G_names_Unlike} {g54 : G_api_Col_54} {g55 : G_schema_table_1} {s0 : S_schema_table_0} {s1 : S_schema_table_1} {s2 : S_schema_table_2} {s3 : S_schema_table_3} {s4 : S_schema_table_4} {x0 : ByteArray} {x1 : Int} {x2 : List D_api_Col} {ret : (((Int × Unit)) ⊕ Unit) → Option β} : schema_table.s3c g26 g33 g49 g53 g54 g55 s0 s1 s2 s3 s4 x0 x1 x2 ret = (schema_table.s3c g26 g33 g49 g53 g54 g55 s0 s1 s2 s3 s4 x0 x1 x2 some).bind ret := by
  simp only [schema_table.s3c, bif_bind, sum_bind, Option.bind_assoc, Option.bind_some, Option.bind_none, Option.bind_fun_some]
theorem schema_table.s4c_bind {β : Type} {g26 : G_schema_col} {g33 : G_schema_words} {g49 : G_names_Check} {g53 : G_names_Unlike} {g54 : G_api_Col_54} {g55 : G_schema_table_1} {s0 : S_schema_table_0} {s1 : S_schema_table_1} {s2 : S_schema_table_2} {s3 : S_schema_table_3} {s4 : S_schema_table_4} {x0 : List D_api_Col} {x1 : Int} {x2 : Int} {x3 : ByteArray} {x4 : Int} {x5 : List D_api_Col} {ret : (((Int × Unit)) ⊕ Unit) → Option β} : schema_table.s4c g26 g33 g49 g53 g54 g55 s0 s1 s2 s3 s4 x0 x1 x2 x3 x4 x5 ret = (schema_table.s4c g26 g33 g49 g53 g54 g55 s0 s1 s2 s3 s4 x0 x1 x2 x3 x4 x5 some).bind ret := by
  simp only [schema_table.s4c, bif_bind, sum_bind, Option.bind_assoc, Option.bind_some, Option.bind_none, Option.bind_fun_some]
theorem schema_table.ev {g26 : G_schema_col} {g33 : G_schema_words} {g49 : G_names_Check} {g53 : G_names_Unlike} {g54 : G_api_Col_54} {g55 : G_schema_table_1} {s0 : S_schema_table_0} {s1 : S_schema_table_1} {s2 : S_schema_table_2} {s3 : S_schema_table_3} {s4 : S_schema_table_4} {a0 : ByteArray} {a1 : Int} {a2 : List D_api_Col} : evAt (env_schema_table g26 g33 g49 g53 g54 g55 s0 s1 s2 s3 s4) [] [0] [.v (.agg [(.d .str a0), (.d (.int .i64) a1), (.d (.sl T_api_Col) a2)])] [] some = schema_table.c g26 g33 g49 g53 g54 g55 s0 s1 s2 s3 s4 a0 a1 a2 (fun r => Sum.elim (fun r => some ⟨.v (.one (.ifc 78 true (.pair (.int .i64) .unit) r)), []⟩) (fun r => some ⟨.v (.one (.raw (.nilIface))), []⟩) r) := by
  kernel_rfl
theorem schema_table.s0_ev {g26 : G_schema_col} {g33 : G_schema_words} {g49 : G_names_Check} {g53 : G_names_Unlike} {g54 : G_api_Col_54} {g55 : G_schema_table_1} {s0 : S_schema_table_0} {s1 : S_schema_table_1} {s2 : S_schema_table_2} {s3 : S_schema_table_3} {s4 : S_schema_table_4} {x0 : Bool} {x1 : ByteArray} {x2 : Int} {x3 : List D_api_Col} : evAt (env_schema_table g26 g33 g49 g53 g54 g55 s0 s1 s2 s3 s4) [1, 0, 1, 1] [1, 24] [.v (.one (.ptr 0 0)), .v (.one (.d .bool x0))] [some (.box [(.d .str x1), (.d (.int .i64) x2), (.d (.sl T_api_Col) x3)])] some = schema_table.s0c g26 g33 g49 g53 g54 g55 s0 s1 s2 s3 s4 x0 x1 x2 x3 (fun r => Sum.elim (fun r => some ⟨.v (.one (.ifc 78 true (.pair (.int .i64) .unit) r)), []⟩) (fun r => some ⟨.v (.one (.raw (.nilIface))), []⟩) r) := by
  kernel_rfl
theorem schema_table.s1_ev {g26 : G_schema_col} {g33 : G_schema_words} {g49 : G_names_Check} {g53 : G_names_Unlike} {g54 : G_api_Col_54} {g55 : G_schema_table_1} {s0 : S_schema_table_0} {s1 : S_schema_table_1} {s2 : S_schema_table_2} {s3 : S_schema_table_3} {s4 : S_schema_table_4} {x0 : ByteArray} {x1 : Int} {x2 : List D_api_Col} : evAt (env_schema_table g26 g33 g49 g53 g54 g55 s0 s1 s2 s3 s4) [1, 1, 1] [1] [.v (.one (.ptr 0 0))] [some (.box [(.d .str x0), (.d (.int .i64) x1), (.d (.sl T_api_Col) x2)])] some = schema_table.s1c g26 g33 g49 g53 g54 g55 s0 s1 s2 s3 s4 x0 x1 x2 (fun r => Sum.elim (fun r => some ⟨.v (.one (.ifc 78 true (.pair (.int .i64) .unit) r)), []⟩) (fun r => some ⟨.v (.one (.raw (.nilIface))), []⟩) r) := by
  kernel_rfl
theorem schema_table.s2_ev {g26 : G_schema_col} {g33 : G_schema_words} {g49 : G_names_Check} {g53 : G_names_Unlike} {g54 : G_api_Col_54} {g55 : G_schema_table_1} {s0 : S_schema_table_0} {s1 : S_schema_table_1} {s2 : S_schema_table_2} {s3 : S_schema_table_3} {s4 : S_schema_table_4} {x0 : Bool} {x1 : ByteArray} {x2 : Int} {x3 : List D_api_Col} : evAt (env_schema_table g26 g33 g49 g53 g54 g55 s0 s1 s2 s3 s4) [1, 0, 1, 1, 1] [1, 38] [.v (.one (.ptr 0 0)), .v (.one (.d .bool x0))] [some (.box [(.d .str x1), (.d (.int .i64) x2), (.d (.sl T_api_Col) x3)])] some = schema_table.s2c g26 g33 g49 g53 g54 g55 s0 s1 s2 s3 s4 x0 x1 x2 x3 (fun r => Sum.elim (fun r => some ⟨.v (.one (.ifc 78 true (.pair (.int .i64) .unit) r)), []⟩) (fun r => some ⟨.v (.one (.raw (.nilIface))), []⟩) r) := by
  kernel_rfl
theorem schema_table.s3_ev {g26 : G_schema_col} {g33 : G_schema_words} {g49 : G_names_Check} {g53 : G_names_Unlike} {g54 : G_api_Col_54} {g55 : G_schema_table_1} {s0 : S_schema_table_0} {s1 : S_schema_table_1} {s2 : S_schema_table_2} {s3 : S_schema_table_3} {s4 : S_schema_table_4} {x0 : ByteArray} {x1 : Int} {x2 : List D_api_Col} : evAt (env_schema_table g26 g33 g49 g53 g54 g55 s0 s1 s2 s3 s4) [1, 1, 1, 1] [1] [.v (.one (.ptr 0 0))] [some (.box [(.d .str x0), (.d (.int .i64) x1), (.d (.sl T_api_Col) x2)])] some = schema_table.s3c g26 g33 g49 g53 g54 g55 s0 s1 s2 s3 s4 x0 x1 x2 (fun r => Sum.elim (fun r => some ⟨.v (.one (.ifc 78 true (.pair (.int .i64) .unit) r)), []⟩) (fun r => some ⟨.v (.one (.raw (.nilIface))), []⟩) r) := by
  kernel_rfl
theorem schema_table.s4_ev {g26 : G_schema_col} {g33 : G_schema_words} {g49 : G_names_Check} {g53 : G_names_Unlike} {g54 : G_api_Col_54} {g55 : G_schema_table_1} {s0 : S_schema_table_0} {s1 : S_schema_table_1} {s2 : S_schema_table_2} {s3 : S_schema_table_3} {s4 : S_schema_table_4} {x0 : List D_api_Col} {x1 : Int} {x2 : Int} {x3 : ByteArray} {x4 : Int} {x5 : List D_api_Col} : evAt (env_schema_table g26 g33 g49 g53 g54 g55 s0 s1 s2 s3 s4) [4, 1, 0, 1, 1, 1, 1] [1, 42, 43, 44] [.v (.one (.ptr 0 0)), .v (.one (.d (.sl T_api_Col) x0)), .v (.one (.d (.int .i64) x1)), .v (.one (.d (.int .i64) x2))] [some (.box [(.d .str x3), (.d (.int .i64) x4), (.d (.sl T_api_Col) x5)])] some = schema_table.s4c g26 g33 g49 g53 g54 g55 s0 s1 s2 s3 s4 x0 x1 x2 x3 x4 x5 (fun r => Sum.elim (fun r => some ⟨.v (.one (.ifc 78 true (.pair (.int .i64) .unit) r)), []⟩) (fun r => some ⟨.v (.one (.raw (.nilIface))), []⟩) r) := by
  kernel_rfl
mutual
def schema_table.s0 : Nat → Bool → ByteArray → Int → (List D_api_Col) → Option (((Int × Unit)) ⊕ Unit)
  | 0, _, _, _, _ => none
  | k + 1, x0, x1, x2, x3 => schema_table.s0c (schema_col.f k) (schema_words.f k) (names_Check.f k) (names_Unlike.f k) (api_Col_54.f k) (schema_table_1.f k) (schema_table.s0 k) (schema_table.s1 k) (schema_table.s2 k) (schema_table.s3 k) (schema_table.s4 k) x0 x1 x2 x3 some
def schema_table.s1 : Nat → ByteArray → Int → (List D_api_Col) → Option (((Int × Unit)) ⊕ Unit)
  | 0, _, _, _ => none
  | k + 1, x0, x1, x2 => schema_table.s1c (schema_col.f k) (schema_words.f k) (names_Check.f k) (names_Unlike.f k) (api_Col_54.f k) (schema_table_1.f k) (schema_table.s0 k) (schema_table.s1 k) (schema_table.s2 k) (schema_table.s3 k) (schema_table.s4 k) x0 x1 x2 some
def schema_table.s2 : Nat → Bool → ByteArray → Int → (List D_api_Col) → Option (((Int × Unit)) ⊕ Unit)
  | 0, _, _, _, _ => none
  | k + 1, x0, x1, x2, x3 => schema_table.s2c (schema_col.f k) (schema_words.f k) (names_Check.f k) (names_Unlike.f k) (api_Col_54.f k) (schema_table_1.f k) (schema_table.s0 k) (schema_table.s1 k) (schema_table.s2 k) (schema_table.s3 k) (schema_table.s4 k) x0 x1 x2 x3 some
def schema_table.s3 : Nat → ByteArray → Int → (List D_api_Col) → Option (((Int × Unit)) ⊕ Unit)
  | 0, _, _, _ => none
  | k + 1, x0, x1, x2 => schema_table.s3c (schema_col.f k) (schema_words.f k) (names_Check.f k) (names_Unlike.f k) (api_Col_54.f k) (schema_table_1.f k) (schema_table.s0 k) (schema_table.s1 k) (schema_table.s2 k) (schema_table.s3 k) (schema_table.s4 k) x0 x1 x2 some
def schema_table.s4 : Nat → (List D_api_Col) → Int → Int → ByteArray → Int → (List D_api_Col) → Option (((Int × Unit)) ⊕ Unit)
  | 0, _, _, _, _, _, _ => none
  | k + 1, x0, x1, x2, x3, x4, x5 => schema_table.s4c (schema_col.f k) (schema_words.f k) (names_Check.f k) (names_Unlike.f k) (api_Col_54.f k) (schema_table_1.f k) (schema_table.s0 k) (schema_table.s1 k) (schema_table.s2 k) (schema_table.s3 k) (schema_table.s4 k) x0 x1 x2 x3 x4 x5 some
end
def schema_table.f (k : Nat) (a0 : ByteArray) (a1 : Int) (a2 : List D_api_Col) : Option (((Int × Unit)) ⊕ Unit) := schema_table.c (schema_col.f k) (schema_words.f k) (names_Check.f k) (names_Unlike.f k) (api_Col_54.f k) (schema_table_1.f k) (schema_table.s0 k) (schema_table.s1 k) (schema_table.s2 k) (schema_table.s3 k) (schema_table.s4 k) a0 a1 a2 some
theorem schema_table.is {g26 : G_schema_col} {g33 : G_schema_words} {g49 : G_names_Check} {g53 : G_names_Unlike} {g54 : G_api_Col_54} {g55 : G_schema_table_1} {s0 : S_schema_table_0} {s1 : S_schema_table_1} {s2 : S_schema_table_2} {s3 : S_schema_table_3} {s4 : S_schema_table_4} : FnIs (env_schema_table g26 g33 g49 g53 g54 g55 s0 s1 s2 s3 s4) 29 Go.Proofs.Tryd.f29 := ⟨Go.Proofs.Tryd.func29, rfl, rfl, rfl, by decide⟩
theorem schema_table.envok {g26 : G_schema_col} {g33 : G_schema_words} {g49 : G_names_Check} {g53 : G_names_Unlike} {g54 : G_api_Col_54} {g55 : G_schema_table_1} {s0 : S_schema_table_0} {s1 : S_schema_table_1} {s2 : S_schema_table_2} {s3 : S_schema_table_3} {s4 : S_schema_table_4} (h26 : CtOK Go.Proofs.Tryd.prog 26 (ct_schema_col g26)) (h33 : CtOK Go.Proofs.Tryd.prog 33 (ct_schema_words g33)) (h49 : CtOK Go.Proofs.Tryd.prog 49 (ct_names_Check g49)) (h53 : CtOK Go.Proofs.Tryd.prog 53 (ct_names_Unlike g53)) (h54 : CtOK Go.Proofs.Tryd.prog 54 (ct_api_Col_54 g54)) (h55 : CtOK Go.Proofs.Tryd.prog 55 (ct_schema_table_1 g55)) : EnvOK (env_schema_table g26 g33 g49 g53 g54 g55 s0 s1 s2 s3 s4).toEnv := by
  intro f c h
  simp only [env_schema_table] at h
  split at h
  · rename_i e; subst e; cases h; exact h26
  split at h
  · rename_i e; subst e; cases h; exact h33
  split at h
  · rename_i e; subst e; cases h; exact h49
  split at h
  · rename_i e; subst e; cases h; exact h53
  split at h
  · rename_i e; subst e; cases h; exact h54
  split at h
  · rename_i e; subst e; cases h; exact h55
  simp at h
noncomputable abbrev schema_table.E (k : Nat) : FEnv := env_schema_table (schema_col.f k) (schema_words.f k) (names_Check.f k) (names_Unlike.f k) (api_Col_54.f k) (schema_table_1.f k) (schema_table.s0 k) (schema_table.s1 k) (schema_table.s2 k) (schema_table.s3 k) (schema_table.s4 k)
theorem schema_table.hE (k : Nat) : EnvOK (schema_table.E k).toEnv := schema_table.envok (schema_col.ok k) (schema_words.ok k) (names_Check.ok k) (names_Unlike.ok k) (api_Col_54.ok k) (schema_table_1.ok k)
theorem schema_table.segs_ok : ∀ k, ∀ s ∈ (schema_table.E k).segs, SegOK (schema_table.E k) Go.Proofs.Tryd.f29 s
  | 0 => by
    intro s hs
    simp only [schema_table.E, env_schema_table, List.mem_cons, List.not_mem_nil, or_false] at hs
    rcases hs with rfl | rfl | rfl | rfl | rfl
    · intro tvs blks res h; exfalso; simp only [seg_schema_table_0] at h; split at h <;> simp [schema_table.s0] at h
    · intro tvs blks res h; exfalso; simp only [seg_schema_table_1] at h; split at h <;> simp [schema_table.s1] at h
    · intro tvs blks res h; exfalso; simp only [seg_schema_table_2] at h; split at h <;> simp [schema_table.s2] at h
    · intro tvs blks res h; exfalso; simp only [seg_schema_table_3] at h; split at h <;> simp [schema_table.s3] at h
    · intro tvs blks res h; exfalso; simp only [seg_schema_table_4] at h; split at h <;> simp [schema_table.s4] at h
  | k + 1 => by
    intro s hs
    simp only [schema_table.E, env_schema_table, List.mem_cons, List.not_mem_nil, or_false] at hs
    rcases hs with rfl | rfl | rfl | rfl | rfl
    · refine seg_of_ev (E := schema_table.E k) (schema_table.hE k) ⟨schema_table.is.rvs⟩ (schema_table.segs_ok k) ?_
      intro tvs blks res h
      simp only [seg_schema_table_0] at h
      split at h
      · exact (schema_table.s0_ev.trans schema_table.s0c_bind).trans h
      · simp at h
    · refine seg_of_ev (E := schema_table.E k) (schema_table.hE k) ⟨schema_table.is.rvs⟩ (schema_table.segs_ok k) ?_
      intro tvs blks res h
      simp only [seg_schema_table_1] at h
      split at h
      · exact (schema_table.s1_ev.trans schema_table.s1c_bind).trans h
      · simp at h
    · refine seg_of_ev (E := schema_table.E k) (schema_table.hE k) ⟨schema_table.is.rvs⟩ (schema_table.segs_ok k) ?_
      intro tvs blks res h
      simp only [seg_schema_table_2] at h
      split at h
      · exact (schema_table.s2_ev.trans schema_table.s2c_bind).trans h
      · simp at h
    · refine seg_of_ev (E := schema_table.E k) (schema_table.hE k) ⟨schema_table.is.rvs⟩ (schema_table.segs_ok k) ?_
      intro tvs blks res h
      simp only [seg_schema_table_3] at h
      split at h
      · exact (schema_table.s3_ev.trans schema_table.s3c_bind).trans h
      · simp at h
    · refine seg_of_ev (E := schema_table.E k) (schema_table.hE k) ⟨schema_table.is.rvs⟩ (schema_table.segs_ok k) ?_
      intro tvs blks res h
      simp only [seg_schema_table_4] at h
      split at h
      · exact (schema_table.s4_ev.trans schema_table.s4c_bind).trans h
      · simp at h
theorem schema_table.ok (k : Nat) : CtOK Go.Proofs.Tryd.prog 29 (ct_schema_table (schema_table.f k)) := by
  refine ct_of_ev (E := schema_table.E k) schema_table.is (schema_table.hE k) (schema_table.segs_ok k) rfl ?_
  intro tvs blks res h
  simp only [ct_schema_table] at h
  split at h
  · exact (schema_table.ev.trans schema_table.c_bind).trans h
  · simp at h

/-! ### schema_Check: function 10 -/
abbrev G_schema_Check : Type := ByteArray → Int → (List D_api_Col) → Option Int
def ct_schema_Check (g : G_schema_Check) : Ct where
  nin := 0
  mv := []
  F := fun tvs blks {β} K => match tvs, blks with
    | [.v (.agg [(.d .str a0), (.d (.int .i64) a1), (.d (.sl (.pair .str (.pair (.int .i64) (.pair .bool (.pair (.pair (.int .i64) (.pair (.int .i64) (.pair (.int .u64) (.pair .str .unit)))) .unit))))) a2)])], [] => (g a0 a1 a2).bind fun r => K ⟨.v (.one (.d (.int .i64) r)), []⟩
    | _, _ => none
  legit := fun tvs blks K r h => by
    split at h
    · obtain ⟨x, hx, hk⟩ := Option.bind_eq_some_iff.1 h
      refine ⟨_, ?_, hk⟩
      simp only [hx, Option.bind_some]
    · simp at h
noncomputable def env_schema_Check (g29 : G_schema_table)  : FEnv := { P := Go.Proofs.Tryd.prog, ct := fun m => if m = 25 then some (ct_schema_number ) else if m = 29 then some (ct_schema_table g29) else none, N := 6, body := Go.Proofs.Tryd.f10.body.getD .skip, rvs := [.tmp 2], rts := [27], nin := 0, rmv := [], segs := [] }
def schema_Check.c {β : Type} (g29 : G_schema_table)  (a0 : ByteArray) (a1 : Int) (a2 : List D_api_Col) (ret : Int → Option β) : Option β := ((g29 a0 a1 a2).bind fun r0 => (Sum.elim (fun r1 => (ret (r1.1))) (fun r2 => (ret ((0 : Int)))) r0))
theorem schema_Check.c_bind {β : Type} {g29 : G_schema_table}  {a0 : ByteArray} {a1 : Int} {a2 : List D_api_Col} {ret : Int → Option β} : schema_Check.c g29  a0 a1 a2 ret = (schema_Check.c g29  a0 a1 a2 some).bind ret := by
  simp only [schema_Check.c, bif_bind, sum_bind, Option.bind_assoc, Option.bind_some, Option.bind_none, Option.bind_fun_some]
theorem schema_Check.ev {g29 : G_schema_table}  {a0 : ByteArray} {a1 : Int} {a2 : List D_api_Col} : evAt (env_schema_Check g29 ) [] [0] [.v (.agg [(.d .str a0), (.d (.int .i64) a1), (.d (.sl T_api_Col) a2)])] [] some = schema_Check.c g29  a0 a1 a2 (fun r => some ⟨.v (.one (.d (.int .i64) r)), []⟩) := by
  kernel_rfl
def schema_Check.f (k : Nat) (a0 : ByteArray) (a1 : Int) (a2 : List D_api_Col) : Option Int := schema_Check.c  (schema_table.f k)  a0 a1 a2 some
theorem schema_Check.is {g29 : G_schema_table}  : FnIs (env_schema_Check g29 ) 10 Go.Proofs.Tryd.f10 := ⟨Go.Proofs.Tryd.func10, rfl, rfl, rfl, by decide⟩
theorem schema_Check.envok {g29 : G_schema_table}  (h25 : CtOK Go.Proofs.Tryd.prog 25 (ct_schema_number )) (h29 : CtOK Go.Proofs.Tryd.prog 29 (ct_schema_table g29)) : EnvOK (env_schema_Check g29 ).toEnv := by
  intro f c h
  simp only [env_schema_Check] at h
  split at h
  · rename_i e; subst e; cases h; exact h25
  split at h
  · rename_i e; subst e; cases h; exact h29
  simp at h
noncomputable abbrev schema_Check.E (k : Nat) : FEnv := env_schema_Check  (schema_table.f k) 
theorem schema_Check.hE (k : Nat) : EnvOK (schema_Check.E k).toEnv := schema_Check.envok (schema_number.ok k) (schema_table.ok k)
theorem schema_Check.ok (k : Nat) : CtOK Go.Proofs.Tryd.prog 10 (ct_schema_Check (schema_Check.f k)) := by
  refine ct_of_ev (E := schema_Check.E k) schema_Check.is (schema_Check.hE k) (fun s hs => by simp [schema_Check.E, env_schema_Check] at hs) rfl ?_
  intro tvs blks res h
  simp only [ct_schema_Check] at h
  split at h
  · exact (schema_Check.ev.trans schema_Check.c_bind).trans h
  · simp at h

/-! ### slices_Index_string_string: function 56 -/
abbrev G_slices_Index_string_string : Type := (List ByteArray) → ByteArray → Option Int
def ct_slices_Index_string_string (g : G_slices_Index_string_string) : Ct where
  nin := 0
  mv := []
  F := fun tvs blks {β} K => match tvs, blks with
    | [.v (.one (.d (.sl .str) a0)), .v (.one (.d .str a1))], [] => (g a0 a1).bind fun r => K ⟨.v (.one (.d (.int .i64) r)), []⟩
    | _, _ => none
  legit := fun tvs blks K r h => by
    split at h
    · obtain ⟨x, hx, hk⟩ := Option.bind_eq_some_iff.1 h
      refine ⟨_, ?_, hk⟩
      simp only [hx, Option.bind_some]
    · simp at h
abbrev S_slices_Index_string_string_0 : Type := (List ByteArray) → ByteArray → Int → Int → Option Int
def seg_slices_Index_string_string_0 (g : S_slices_Index_string_string_0) : Seg where
  path := [4, 1, 0, 1]
  prep := []
  keep := [0, 1, 7, 8]
  F := fun tvs blks {β} K => match tvs, blks with
    | [.v (.one (.d (.sl .str) x0)), .v (.one (.d .str x1)), .v (.one (.d (.int .i64) x2)), .v (.one (.d (.int .i64) x3))], [] => (g x0 x1 x2 x3).bind fun r => K ⟨.v (.one (.d (.int .i64) r)), []⟩
    | _, _ => none
  legit := fun tvs blks K r h => by
    split at h
    · obtain ⟨x, hx, hk⟩ := Option.bind_eq_some_iff.1 h
      refine ⟨_, ?_, hk⟩
      simp only [hx, Option.bind_some]
    · simp at h
noncomputable def env_slices_Index_string_string  (s0 : S_slices_Index_string_string_0) : FEnv := { P := Go.Proofs.Tryd.prog, ct := fun m => none, N := 19, body := Go.Proofs.Tryd.f56.body.getD .skip, rvs := [.tmp 4], rts := [3], nin := 0, rmv := [], segs := [seg_slices_Index_string_string_0 s0] }
def slices_Index_string_string.c {β : Type}  (s0 : S_slices_Index_string_string_0) (a0 : List ByteArray) (a1 : ByteArray) (ret : Int → Option β) : Option β := ((s0 a0 a1 ((List.length a0) : Int) (0 : Int)).bind ret)
def slices_Index_string_string.s0c {β : Type}  (s0 : S_slices_Index_string_string_0) (x0 : List ByteArray) (x1 : ByteArray) (x2 : Int) (x3 : Int) (ret : Int → Option β) : Option β := (bif (decide (x3 < x2)) then (bif ((decide ((0 : Int) ≤ x3)) && (decide (x3 < ((List.length x0) : Int)))) then (bif ((ByteArray.toList x1) == (ByteArray.toList (elem Ty.str x0 x3))) then (ret (x3)) else ((s0 x0 x1 x2 (IntKind.wrap IntKind.i64 (x3 + (1 : Int)))).bind ret)) else none) else (ret ((-1 : Int))))
theorem slices_Index_string_string.c_bind {β : Type}  {s0 : S_slices_Index_string_string_0} {a0 : List ByteArray} {a1 : ByteArray} {ret : Int → Option β} : slices_Index_string_string.c  s0 a0 a1 ret = (slices_Index_string_string.c  s0 a0 a1 some).bind ret := by
  simp only [slices_Index_string_string.c, bif_bind, sum_bind, Option.bind_assoc, Option.bind_some, Option.bind_none, Option.bind_fun_some]
theorem slices_Index_string_string.s0c_bind {β : Type}  {s0 : S_slices_Index_string_string_0} {x0 : List ByteArray} {x1 : ByteArray} {x2 : Int} {x3 : Int} {ret : Int → Option β} : slices_Index_string_string.s0c  s0 x0 x1 x2 x3 ret = (slices_Index_string_string.s0c  s0 x0 x1 x2 x3 some).bind ret := by
  simp only [slices_Index_string_string.s0c, bif_bind, sum_bind, Option.bind_assoc, Option.bind_some, Option.bind_none, Option.bind_fun_some]
theorem slices_Index_string_string.ev  {s0 : S_slices_Index_string_string_0} {a0 : List ByteArray} {a1 : ByteArray} : evAt (env_slices_Index_string_string  s0) [] [0, 1] [.v (.one (.d (.sl .str) a0)), .v (.one (.d .str a1))] [] some = slices_Index_string_string.c  s0 a0 a1 (fun r => some ⟨.v (.one (.d (.int .i64) r)), []⟩) := by
  kernel_rfl
theorem slices_Index_string_string.s0_ev  {s0 : S_slices_Index_string_string_0} {x0 : List ByteArray} {x1 : ByteArray} {x2 : Int} {x3 : Int} : evAt (env_slices_Index_string_string  s0) [4, 1, 0, 1] [0, 1, 7, 8] [.v (.one (.d (.sl .str) x0)), .v (.one (.d .str x1)), .v (.one (.d (.int .i64) x2)), .v (.one (.d (.int .i64) x3))] [] some = slices_Index_string_string.s0c  s0 x0 x1 x2 x3 (fun r => some ⟨.v (.one (.d (.int .i64) r)), []⟩) := by
  kernel_rfl
def slices_Index_string_string.s0 : Nat → (List ByteArray) → ByteArray → Int → Int → Option Int
  | 0, _, _, _, _ => none
  | k + 1, x0, x1, x2, x3 => slices_Index_string_string.s0c  (slices_Index_string_string.s0 k) x0 x1 x2 x3 some
def slices_Index_string_string.f (k : Nat) (a0 : List ByteArray) (a1 : ByteArray) : Option Int := slices_Index_string_string.c  (slices_Index_string_string.s0 k) a0 a1 some
theorem slices_Index_string_string.is  {s0 : S_slices_Index_string_string_0} : FnIs (env_slices_Index_string_string  s0) 56 Go.Proofs.Tryd.f56 := ⟨Go.Proofs.Tryd.func56, rfl, rfl, rfl, by decide⟩
theorem slices_Index_string_string.envok  {s0 : S_slices_Index_string_string_0}  : EnvOK (env_slices_Index_string_string  s0).toEnv := by
  intro f c h
  simp only [env_slices_Index_string_string] at h
  simp at h
noncomputable abbrev slices_Index_string_string.E (k : Nat) : FEnv := env_slices_Index_string_string  (slices_Index_string_string.s0 k)
theorem slices_Index_string_string.hE (k : Nat) : EnvOK (slices_Index_string_string.E k).toEnv := slices_Index_string_string.envok 
theorem slices_Index_string_string.segs_ok : ∀ k, ∀ s ∈ (slices_Index_string_string.E k).segs, SegOK (slices_Index_string_string.E k) Go.Proofs.Tryd.f56 s
  | 0 => by
    intro s hs
    simp only [slices_Index_string_string.E, env_slices_Index_string_string, List.mem_cons, List.not_mem_nil, or_false] at hs
    rcases hs with rfl
    · intro tvs blks res h; exfalso; simp only [seg_slices_Index_string_string_0] at h; split at h <;> simp [slices_Index_string_string.s0] at h
  | k + 1 => by
    intro s hs
    simp only [slices_Index_string_string.E, env_slices_Index_string_string, List.mem_cons, List.not_mem_nil, or_false] at hs
    rcases hs with rfl
    · refine seg_of_ev (E := slices_Index_string_string.E k) (slices_Index_string_string.hE k) ⟨slices_Index_string_string.is.rvs⟩ (slices_Index_string_string.segs_ok k) ?_
      intro tvs blks res h
      simp only [seg_slices_Index_string_string_0] at h
      split at h
      · exact (slices_Index_string_string.s0_ev.trans slices_Index_string_string.s0c_bind).trans h
      · simp at h
theorem slices_Index_string_string.ok (k : Nat) : CtOK Go.Proofs.Tryd.prog 56 (ct_slices_Index_string_string (slices_Index_string_string.f k)) := by
  refine ct_of_ev (E := slices_Index_string_string.E k) slices_Index_string_string.is (slices_Index_string_string.hE k) (slices_Index_string_string.segs_ok k) rfl ?_
  intro tvs blks res h
  simp only [ct_slices_Index_string_string] at h
  split at h
  · exact (slices_Index_string_string.ev.trans slices_Index_string_string.c_bind).trans h
  · simp at h

/-! ### names_Find: function 32 -/
abbrev G_names_Find : Type := (List ByteArray) → ByteArray → Option Int
def ct_names_Find (g : G_names_Find) : Ct where
  nin := 0
  mv := []
  F := fun tvs blks {β} K => match tvs, blks with
    | [.v (.one (.d (.sl .str) a0)), .v (.one (.d .str a1))], [] => (g a0 a1).bind fun r => K ⟨.v (.one (.d (.int .i64) r)), []⟩
    | _, _ => none
  legit := fun tvs blks K r h => by
    split at h
    · obtain ⟨x, hx, hk⟩ := Option.bind_eq_some_iff.1 h
      refine ⟨_, ?_, hk⟩
      simp only [hx, Option.bind_some]
    · simp at h
noncomputable def env_names_Find (g56 : G_slices_Index_string_string)  : FEnv := { P := Go.Proofs.Tryd.prog, ct := fun m => if m = 56 then some (ct_slices_Index_string_string g56) else none, N := 8, body := Go.Proofs.Tryd.f32.body.getD .skip, rvs := [.tmp 4], rts := [3], nin := 0, rmv := [], segs := [] }
def names_Find.c {β : Type} (g56 : G_slices_Index_string_string)  (a0 : List ByteArray) (a1 : ByteArray) (ret : Int → Option β) : Option β := ((g56 a0 a1).bind fun r0 => (ret (r0)))
theorem names_Find.c_bind {β : Type} {g56 : G_slices_Index_string_string}  {a0 : List ByteArray} {a1 : ByteArray} {ret : Int → Option β} : names_Find.c g56  a0 a1 ret = (names_Find.c g56  a0 a1 some).bind ret := by
  simp only [names_Find.c, bif_bind, sum_bind, Option.bind_assoc, Option.bind_some, Option.bind_none, Option.bind_fun_some]
theorem names_Find.ev {g56 : G_slices_Index_string_string}  {a0 : List ByteArray} {a1 : ByteArray} : evAt (env_names_Find g56 ) [] [0, 1] [.v (.one (.d (.sl .str) a0)), .v (.one (.d .str a1))] [] some = names_Find.c g56  a0 a1 (fun r => some ⟨.v (.one (.d (.int .i64) r)), []⟩) := by
  kernel_rfl
def names_Find.f (k : Nat) (a0 : List ByteArray) (a1 : ByteArray) : Option Int := names_Find.c (slices_Index_string_string.f k)  a0 a1 some
theorem names_Find.is {g56 : G_slices_Index_string_string}  : FnIs (env_names_Find g56 ) 32 Go.Proofs.Tryd.f32 := ⟨Go.Proofs.Tryd.func32, rfl, rfl, rfl, by decide⟩
theorem names_Find.envok {g56 : G_slices_Index_string_string}  (h56 : CtOK Go.Proofs.Tryd.prog 56 (ct_slices_Index_string_string g56)) : EnvOK (env_names_Find g56 ).toEnv := by
  intro f c h
  simp only [env_names_Find] at h
  split at h
  · rename_i e; subst e; cases h; exact h56
  simp at h
noncomputable abbrev names_Find.E (k : Nat) : FEnv := env_names_Find (slices_Index_string_string.f k) 
theorem names_Find.hE (k : Nat) : EnvOK (names_Find.E k).toEnv := names_Find.envok (slices_Index_string_string.ok k)
theorem names_Find.ok (k : Nat) : CtOK Go.Proofs.Tryd.prog 32 (ct_names_Find (names_Find.f k)) := by
  refine ct_of_ev (E := names_Find.E k) names_Find.is (names_Find.hE k) (fun s hs => by simp [names_Find.E, env_names_Find] at hs) rfl ?_
  intro tvs blks res h
  simp only [ct_names_Find] at h
  split at h
  · exact (names_Find.ev.trans names_Find.c_bind).trans h
  · simp at h

/-! ### schema_Find: function 12 -/
abbrev G_schema_Find : Type := ByteArray → Int → (List D_api_Col) → ByteArray → Option Int
def ct_schema_Find (g : G_schema_Find) : Ct where
  nin := 0
  mv := []
  F := fun tvs blks {β} K => match tvs, blks with
    | [.v (.agg [(.d .str a0), (.d (.int .i64) a1), (.d (.sl (.pair .str (.pair (.int .i64) (.pair .bool (.pair (.pair (.int .i64) (.pair (.int .i64) (.pair (.int .u64) (.pair .str .unit)))) .unit))))) a2)]), .v (.one (.d .str a3))], [] => (g a0 a1 a2 a3).bind fun r => K ⟨.v (.one (.d (.int .i64) r)), []⟩
    | _, _ => none
  legit := fun tvs blks K r h => by
    split at h
    · obtain ⟨x, hx, hk⟩ := Option.bind_eq_some_iff.1 h
      refine ⟨_, ?_, hk⟩
      simp only [hx, Option.bind_some]
    · simp at h
noncomputable def env_schema_Find (g32 : G_names_Find) (g33 : G_schema_words)  : FEnv := { P := Go.Proofs.Tryd.prog, ct := fun m => if m = 32 then some (ct_names_Find g32) else if m = 33 then some (ct_schema_words g33) else none, N := 10, body := Go.Proofs.Tryd.f12.body.getD .skip, rvs := [.tmp 4], rts := [3], nin := 0, rmv := [], segs := [] }
def schema_Find.c {β : Type} (g32 : G_names_Find) (g33 : G_schema_words)  (a0 : ByteArray) (a1 : Int) (a2 : List D_api_Col) (a3 : ByteArray) (ret : Int → Option β) : Option β := ((g33 a2).bind fun r0 => ((g32 r0 a3).bind fun r1 => (ret (r1))))
theorem schema_Find.c_bind {β : Type} {g32 : G_names_Find} {g33 : G_schema_words}  {a0 : ByteArray} {a1 : Int} {a2 : List D_api_Col} {a3 : ByteArray} {ret : Int → Option β} : schema_Find.c g32 g33  a0 a1 a2 a3 ret = (schema_Find.c g32 g33  a0 a1 a2 a3 some).bind ret := by
  simp only [schema_Find.c, bif_bind, sum_bind, Option.bind_assoc, Option.bind_some, Option.bind_none, Option.bind_fun_some]
theorem schema_Find.ev {g32 : G_names_Find} {g33 : G_schema_words}  {a0 : ByteArray} {a1 : Int} {a2 : List D_api_Col} {a3 : ByteArray} : evAt (env_schema_Find g32 g33 ) [] [0, 1] [.v (.agg [(.d .str a0), (.d (.int .i64) a1), (.d (.sl T_api_Col) a2)]), .v (.one (.d .str a3))] [] some = schema_Find.c g32 g33  a0 a1 a2 a3 (fun r => some ⟨.v (.one (.d (.int .i64) r)), []⟩) := by
  kernel_rfl
def schema_Find.f (k : Nat) (a0 : ByteArray) (a1 : Int) (a2 : List D_api_Col) (a3 : ByteArray) : Option Int := schema_Find.c (names_Find.f k) (schema_words.f k)  a0 a1 a2 a3 some
theorem schema_Find.is {g32 : G_names_Find} {g33 : G_schema_words}  : FnIs (env_schema_Find g32 g33 ) 12 Go.Proofs.Tryd.f12 := ⟨Go.Proofs.Tryd.func12, rfl, rfl, rfl, by decide⟩
theorem schema_Find.envok {g32 : G_names_Find} {g33 : G_schema_words}  (h32 : CtOK Go.Proofs.Tryd.prog 32 (ct_names_Find g32)) (h33 : CtOK Go.Proofs.Tryd.prog 33 (ct_schema_words g33)) : EnvOK (env_schema_Find g32 g33 ).toEnv := by
  intro f c h
  simp only [env_schema_Find] at h
  split at h
  · rename_i e; subst e; cases h; exact h32
  split at h
  · rename_i e; subst e; cases h; exact h33
  simp at h
noncomputable abbrev schema_Find.E (k : Nat) : FEnv := env_schema_Find (names_Find.f k) (schema_words.f k) 
theorem schema_Find.hE (k : Nat) : EnvOK (schema_Find.E k).toEnv := schema_Find.envok (names_Find.ok k) (schema_words.ok k)
theorem schema_Find.ok (k : Nat) : CtOK Go.Proofs.Tryd.prog 12 (ct_schema_Find (schema_Find.f k)) := by
  refine ct_of_ev (E := schema_Find.E k) schema_Find.is (schema_Find.hE k) (fun s hs => by simp [schema_Find.E, env_schema_Find] at hs) rfl ?_
  intro tvs blks res h
  simp only [ct_schema_Find] at h
  split at h
  · exact (schema_Find.ev.trans schema_Find.c_bind).trans h
  · simp at h

/-! ### pack_Uint: function 36 -/
abbrev G_pack_Uint : Type := Int → Option ByteArray
def ct_pack_Uint (g : G_pack_Uint) : Ct where
  nin := 0
  mv := []
  F := fun tvs blks {β} K => match tvs, blks with
    | [.v (.one (.d (.int .u64) a0))], [] => (g a0).bind fun r => K ⟨.v (.one (.d .str r)), []⟩
    | _, _ => none
  legit := fun tvs blks K r h => by
    split at h
    · obtain ⟨x, hx, hk⟩ := Option.bind_eq_some_iff.1 h
      refine ⟨_, ?_, hk⟩
      simp only [hx, Option.bind_some]
    · simp at h
abbrev S_pack_Uint_0 : Type := Int → (List Int) → Option ByteArray
def seg_pack_Uint_0 (g : S_pack_Uint_0) : Seg where
  path := [4, 0, 1, 1]
  prep := [.own 3 (.int .u8)]
  keep := [0, 3]
  F := fun tvs blks {β} K => match tvs, blks with
    | [.v (.one (.d (.int .u64) x0)), .v (.one (.own 0))], [some (.own (.int .u8) false x1)] => (g x0 x1).bind fun r => K ⟨.v (.one (.d .str r)), []⟩
    | _, _ => none
  legit := fun tvs blks K r h => by
    split at h
    · obtain ⟨x, hx, hk⟩ := Option.bind_eq_some_iff.1 h
      refine ⟨_, ?_, hk⟩
      simp only [hx, Option.bind_some]
    · simp at h
noncomputable def env_pack_Uint  (s0 : S_pack_Uint_0) : FEnv := { P := Go.Proofs.Tryd.prog, ct := fun m => none, N := 20, body := Go.Proofs.Tryd.f36.body.getD .skip, rvs := [.tmp 2], rts := [9], nin := 0, rmv := [], segs := [seg_pack_Uint_0 s0] }
def pack_Uint.c {β : Type}  (s0 : S_pack_Uint_0) (a0 : Int) (ret : ByteArray → Option β) : Option β := ((s0 a0 []).bind ret)
def pack_Uint.s0c {β : Type}  (s0 : S_pack_Uint_0) (x0 : Int) (x1 : List Int) (ret : ByteArray → Option β) : Option β := (bif (decide (x0 > (127 : Int))) then (bif (decide ((((List.length x1) + (1 : Nat)) * (1 : Nat)) ≤ (35184372088832 : Nat))) then ((s0 (Int.fdiv x0 (128 : Int)) (x1 ++ [(IntKind.wrap IntKind.u8 ((BitVec.toNat ((BitVec.ofInt (8 : Nat) (IntKind.wrap IntKind.u8 x0)) ||| (BitVec.ofInt (8 : Nat) (128 : Int)))) : Int))])).bind ret) else none) else (bif (decide ((((List.length x1) + (1 : Nat)) * (1 : Nat)) ≤ (35184372088832 : Nat))) then (ret ((ByteArray.mk (List.toArray (List.map (fun n => (UInt8.ofNat (Int.toNat n))) (x1 ++ [(IntKind.wrap IntKind.u8 x0)])))))) else none))
theorem pack_Uint.c_bind {β : Type}  {s0 : S_pack_Uint_0} {a0 : Int} {ret : ByteArray → Option β} : pack_Uint.c  s0 a0 ret = (pack_Uint.c  s0 a0 some).bind ret := by
  simp only [pack_Uint.c, bif_bind, sum_bind, Option.bind_assoc, Option.bind_some, Option.bind_none, Option.bind_fun_some]
theorem pack_Uint.s0c_bind {β : Type}  {s0 : S_pack_Uint_0} {x0 : Int} {x1 : List Int} {ret : ByteArray → Option β} : pack_Uint.s0c  s0 x0 x1 ret = (pack_Uint.s0c  s0 x0 x1 some).bind ret := by
  simp only [pack_Uint.s0c, bif_bind, sum_bind, Option.bind_assoc, Option.bind_some, Option.bind_none, Option.bind_fun_some]
theorem pack_Uint.ev  {s0 : S_pack_Uint_0} {a0 : Int} : evAt (env_pack_Uint  s0) [] [0] [.v (.one (.d (.int .u64) a0))] [] some = pack_Uint.c  s0 a0 (fun r => some ⟨.v (.one (.d .str r)), []⟩) := by
  kernel_rfl
theorem pack_Uint.s0_ev  {s0 : S_pack_Uint_0} {x0 : Int} {x1 : List Int} : evAt (env_pack_Uint  s0) [4, 0, 1, 1] [0, 3] [.v (.one (.d (.int .u64) x0)), .v (.one (.own 0))] [some (.own (.int .u8) false x1)] some = pack_Uint.s0c  s0 x0 x1 (fun r => some ⟨.v (.one (.d .str r)), []⟩) := by
  kernel_rfl
def pack_Uint.s0 : Nat → Int → (List Int) → Option ByteArray
  | 0, _, _ => none
  | k + 1, x0, x1 => pack_Uint.s0c  (pack_Uint.s0 k) x0 x1 some
def pack_Uint.f (k : Nat) (a0 : Int) : Option ByteArray := pack_Uint.c  (pack_Uint.s0 k) a0 some
theorem pack_Uint.is  {s0 : S_pack_Uint_0} : FnIs (env_pack_Uint  s0) 36 Go.Proofs.Tryd.f36 := ⟨Go.Proofs.Tryd.func36, rfl, rfl, rfl, by decide⟩
theorem pack_Uint.envok  {s0 : S_pack_Uint_0}  : EnvOK (env_pack_Uint  s0).toEnv := by
  intro f c h
  simp only [env_pack_Uint] at h
  simp at h
noncomputable abbrev pack_Uint.E (k : Nat) : FEnv := env_pack_Uint  (pack_Uint.s0 k)
theorem pack_Uint.hE (k : Nat) : EnvOK (pack_Uint.E k).toEnv := pack_Uint.envok 
theorem pack_Uint.segs_ok : ∀ k, ∀ s ∈ (pack_Uint.E k).segs, SegOK (pack_Uint.E k) Go.Proofs.Tryd.f36 s
  | 0 => by
    intro s hs
    simp only [pack_Uint.E, env_pack_Uint, List.mem_cons, List.not_mem_nil, or_false] at hs
    rcases hs with rfl
    · intro tvs blks res h; exfalso; simp only [seg_pack_Uint_0] at h; split at h <;> simp [pack_Uint.s0] at h
  | k + 1 => by
    intro s hs
    simp only [pack_Uint.E, env_pack_Uint, List.mem_cons, List.not_mem_nil, or_false] at hs
    rcases hs with rfl
    · refine seg_of_ev (E := pack_Uint.E k) (pack_Uint.hE k) ⟨pack_Uint.is.rvs⟩ (pack_Uint.segs_ok k) ?_
      intro tvs blks res h
      simp only [seg_pack_Uint_0] at h
      split at h
      · exact (pack_Uint.s0_ev.trans pack_Uint.s0c_bind).trans h
      · simp at h
theorem pack_Uint.ok (k : Nat) : CtOK Go.Proofs.Tryd.prog 36 (ct_pack_Uint (pack_Uint.f k)) := by
  refine ct_of_ev (E := pack_Uint.E k) pack_Uint.is (pack_Uint.hE k) (pack_Uint.segs_ok k) rfl ?_
  intro tvs blks res h
  simp only [ct_pack_Uint] at h
  split at h
  · exact (pack_Uint.ev.trans pack_Uint.c_bind).trans h
  · simp at h
end Go.Proofs.YtddlebbjaadbeaaDoor.Aev
