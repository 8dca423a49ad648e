/- By a program of this session (AEV): functions of the program as plain functions, and that the machine does what they say. -/
import Derived.Test.YtddlebbjaadbeaaGreatDoorTys
import Derived.Test.YtddlebbjaadbeaaGreatDoorProg
import Derived.Laws.Externs
import Derived.Lib.Bytealg
import Derived.Test.YtddlebbjaadbeaaGreatDoorF0
import Derived.Test.YtddlebbjaadbeaaGreatDoorF1
import Derived.Test.YtddlebbjaadbeaaGreatDoorF2
import Derived.Test.YtddlebbjaadbeaaGreatDoorF3
namespace Go.Proofs.YtddlebbjaadbeaaGreatDoor.Aev
set_option linter.unusedVariables false
set_option linter.unusedSimpArgs false
set_option maxRecDepth 100000
set_option maxHeartbeats 4000000
open Go
/-! ### schema_table: function 48 -/
abbrev G_schema_table : Type := ByteArray → Int → (List D_api_Col) → Option (((Int × Unit)) ⊕ Unit)
def ct_schema_table (g : G_schema_table) : Ct where
  nin := 0
  mv := []
  F := fun tvs blks {β} K => match tvs, blks with
    | [.v (.agg [(.d .str a0), (.d (.int .i64) a1), (.d (.sl (.pair .str (.pair (.int .i64) (.pair .bool (.pair (.pair (.int .i64) (.pair (.int .i64) (.pair (.int .u64) (.pair .str .unit)))) .unit))))) a2)])], [] => (g a0 a1 a2).bind fun r => Sum.elim (fun r => K ⟨.v (.one (.ifc 105 true (.pair (.int .i64) .unit) r)), []⟩) (fun r => K ⟨.v (.one (.raw (.nilIface))), []⟩) r
    | _, _ => none
  legit := fun tvs blks K r h => by
    split at h
    · obtain ⟨x, hx, hk⟩ := Option.bind_eq_some_iff.1 h
      rcases x with x | x <;> (simp only [Sum.elim_inl, Sum.elim_inr] at hk; exact ⟨_, by simp only [hx, Option.bind_some, Sum.elim_inl, Sum.elim_inr], hk⟩)
    · simp at h
abbrev S_schema_table_0 : Type := Bool → ByteArray → Int → (List D_api_Col) → Option (((Int × Unit)) ⊕ Unit)
abbrev S_schema_table_1 : Type := ByteArray → Int → (List D_api_Col) → Option (((Int × Unit)) ⊕ Unit)
abbrev S_schema_table_2 : Type := Bool → ByteArray → Int → (List D_api_Col) → Option (((Int × Unit)) ⊕ Unit)
abbrev S_schema_table_3 : Type := ByteArray → Int → (List D_api_Col) → Option (((Int × Unit)) ⊕ Unit)
abbrev S_schema_table_4 : Type := (List D_api_Col) → Int → Int → ByteArray → Int → (List D_api_Col) → Option (((Int × Unit)) ⊕ Unit)
def seg_schema_table_0 (g : S_schema_table_0) : Seg where
  path := [1, 0, 1, 1]
  prep := []
  keep := [1, 24]
  F := fun tvs blks {β} K => match tvs, blks with
    | [.v (.one (.ptr 0 0)), .v (.one (.d .bool x0))], [some (.box [(.d .str x1), (.d (.int .i64) x2), (.d (.sl (.pair .str (.pair (.int .i64) (.pair .bool (.pair (.pair (.int .i64) (.pair (.int .i64) (.pair (.int .u64) (.pair .str .unit)))) .unit))))) x3)])] => (g x0 x1 x2 x3).bind fun r => Sum.elim (fun r => K ⟨.v (.one (.ifc 105 true (.pair (.int .i64) .unit) r)), []⟩) (fun r => K ⟨.v (.one (.raw (.nilIface))), []⟩) r
    | _, _ => none
  legit := fun tvs blks K r h => by
    split at h
    · obtain ⟨x, hx, hk⟩ := Option.bind_eq_some_iff.1 h
      rcases x with x | x <;> (simp only [Sum.elim_inl, Sum.elim_inr] at hk; exact ⟨_, by simp only [hx, Option.bind_some, Sum.elim_inl, Sum.elim_inr], hk⟩)
    · simp at h
def seg_schema_table_1 (g : S_schema_table_1) : Seg where
  path := [1, 1, 1]
  prep := []
  keep := [1]
  F := fun tvs blks {β} K => match tvs, blks with
    | [.v (.one (.ptr 0 0))], [some (.box [(.d .str x0), (.d (.int .i64) x1), (.d (.sl (.pair .str (.pair (.int .i64) (.pair .bool (.pair (.pair (.int .i64) (.pair (.int .i64) (.pair (.int .u64) (.pair .str .unit)))) .unit))))) x2)])] => (g x0 x1 x2).bind fun r => Sum.elim (fun r => K ⟨.v (.one (.ifc 105 true (.pair (.int .i64) .unit) r)), []⟩) (fun r => K ⟨.v (.one (.raw (.nilIface))), []⟩) r
    | _, _ => none
  legit := fun tvs blks K r h => by
    split at h
    · obtain ⟨x, hx, hk⟩ := Option.bind_eq_some_iff.1 h
      rcases x with x | x <;> (simp only [Sum.elim_inl, Sum.elim_inr] at hk; exact ⟨_, by simp only [hx, Option.bind_some, Sum.elim_inl, Sum.elim_inr], hk⟩)
    · simp at h
def seg_schema_table_2 (g : S_schema_table_2) : Seg where
  path := [1, 0, 1, 1, 1]
  prep := []
  keep := [1, 38]
  F := fun tvs blks {β} K => match tvs, blks with
    | [.v (.one (.ptr 0 0)), .v (.one (.d .bool x0))], [some (.box [(.d .str x1), (.d (.int .i64) x2), (.d (.sl (.pair .str (.pair (.int .i64) (.pair .bool (.pair (.pair (.int .i64) (.pair (.int .i64) (.pair (.int .u64) (.pair .str .unit)))) .unit))))) x3)])] => (g x0 x1 x2 x3).bind fun r => Sum.elim (fun r => K ⟨.v (.one (.ifc 105 true (.pair (.int .i64) .unit) r)), []⟩) (fun r => K ⟨.v (.one (.raw (.nilIface))), []⟩) r
    | _, _ => none
  legit := fun tvs blks K r h => by
    split at h
    · obtain ⟨x, hx, hk⟩ := Option.bind_eq_some_iff.1 h
      rcases x with x | x <;> (simp only [Sum.elim_inl, Sum.elim_inr] at hk; exact ⟨_, by simp only [hx, Option.bind_some, Sum.elim_inl, Sum.elim_inr], hk⟩)
    · simp at h
def seg_schema_table_3 (g : S_schema_table_3) : Seg where
  path := [1, 1, 1, 1]
  prep := []
  keep := [1]
  F := fun tvs blks {β} K => match tvs, blks with
    | [.v (.one (.ptr 0 0))], [some (.box [(.d .str x0), (.d (.int .i64) x1), (.d (.sl (.pair .str (.pair (.int .i64) (.pair .bool (.pair (.pair (.int .i64) (.pair (.int .i64) (.pair (.int .u64) (.pair .str .unit)))) .unit))))) x2)])] => (g x0 x1 x2).bind fun r => Sum.elim (fun r => K ⟨.v (.one (.ifc 105 true (.pair (.int .i64) .unit) r)), []⟩) (fun r => K ⟨.v (.one (.raw (.nilIface))), []⟩) r
    | _, _ => none
  legit := fun tvs blks K r h => by
    split at h
    · obtain ⟨x, hx, hk⟩ := Option.bind_eq_some_iff.1 h
      rcases x with x | x <;> (simp only [Sum.elim_inl, Sum.elim_inr] at hk; exact ⟨_, by simp only [hx, Option.bind_some, Sum.elim_inl, Sum.elim_inr], hk⟩)
    · simp at h
def seg_schema_table_4 (g : S_schema_table_4) : Seg where
  path := [4, 1, 0, 1, 1, 1, 1]
  prep := []
  keep := [1, 42, 43, 44]
  F := fun tvs blks {β} K => match tvs, blks with
    | [.v (.one (.ptr 0 0)), .v (.one (.d (.sl (.pair .str (.pair (.int .i64) (.pair .bool (.pair (.pair (.int .i64) (.pair (.int .i64) (.pair (.int .u64) (.pair .str .unit)))) .unit))))) x0)), .v (.one (.d (.int .i64) x1)), .v (.one (.d (.int .i64) x2))], [some (.box [(.d .str x3), (.d (.int .i64) x4), (.d (.sl (.pair .str (.pair (.int .i64) (.pair .bool (.pair (.pair (.int .i64) (.pair (.int .i64) (.pair (.int .u64) (.pair .str .unit)))) .unit))))) x5)])] => (g x0 x1 x2 x3 x4 x5).bind fun r => Sum.elim (fun r => K ⟨.v (.one (.ifc 105 true (.pair (.int .i64) .unit) r)), []⟩) (fun r => K ⟨.v (.one (.raw (.nilIface))), []⟩) r
    | _, _ => none
  legit := fun tvs blks K r h => by
    split at h
    · obtain ⟨x, hx, hk⟩ := Option.bind_eq_some_iff.1 h
      rcases x with x | x <;> (simp only [Sum.elim_inl, Sum.elim_inr] at hk; exact ⟨_, by simp only [hx, Option.bind_some, Sum.elim_inl, Sum.elim_inr], hk⟩)
    · simp at h
noncomputable def env_schema_table (g50 : G_schema_words) (g51 : G_schema_col) (g68 : G_names_Check) (g69 : G_names_Unlike) (g70 : G_api_Col_70) (g71 : G_schema_table_1) (s0 : S_schema_table_0) (s1 : S_schema_table_1) (s2 : S_schema_table_2) (s3 : S_schema_table_3) (s4 : S_schema_table_4) : FEnv := { P := Go.Proofs.Tryz.prog, ct := fun m => if m = 50 then some (ct_schema_words g50) else if m = 51 then some (ct_schema_col g51) else if m = 68 then some (ct_names_Check g68) else if m = 69 then some (ct_names_Unlike g69) else if m = 70 then some (ct_api_Col_70 g70) else if m = 71 then some (ct_schema_table_1 g71) else none, N := 69, body := Go.Proofs.Tryz.f48.body.getD .skip, rvs := [.tmp 2], rts := [82], nin := 0, rmv := [], segs := [seg_schema_table_0 s0, seg_schema_table_1 s1, seg_schema_table_2 s2, seg_schema_table_3 s3, seg_schema_table_4 s4] }
def schema_table.c {β : Type} (g50 : G_schema_words) (g51 : G_schema_col) (g68 : G_names_Check) (g69 : G_names_Unlike) (g70 : G_api_Col_70) (g71 : G_schema_table_1) (s0 : S_schema_table_0) (s1 : S_schema_table_1) (s2 : S_schema_table_2) (s3 : S_schema_table_3) (s4 : S_schema_table_4) (a0 : ByteArray) (a1 : Int) (a2 : List D_api_Col) (ret : (((Int × Unit)) ⊕ Unit) → Option β) : Option β := ((g68 a0).bind fun r0 => (bif (r0 != (0 : Int)) then (ret (.inl ((r0, ())))) else (bif (decide (((List.length a2) : Int) < (1 : Int))) then ((s0 true a0 a1 a2).bind ret) else ((s0 (decide (((List.length a2) : Int) > (8 : Int))) a0 a1 a2).bind ret))))
def schema_table.s0c {β : Type} (g50 : G_schema_words) (g51 : G_schema_col) (g68 : G_names_Check) (g69 : G_names_Unlike) (g70 : G_api_Col_70) (g71 : G_schema_table_1) (s0 : S_schema_table_0) (s1 : S_schema_table_1) (s2 : S_schema_table_2) (s3 : S_schema_table_3) (s4 : S_schema_table_4) (x0 : Bool) (x1 : ByteArray) (x2 : Int) (x3 : List D_api_Col) (ret : (((Int × Unit)) ⊕ Unit) → Option β) : Option β := (bif x0 then (ret (.inl (((2 : Int), ())))) else ((s1 x1 x2 x3).bind ret))
def schema_table.s1c {β : Type} (g50 : G_schema_words) (g51 : G_schema_col) (g68 : G_names_Check) (g69 : G_names_Unlike) (g70 : G_api_Col_70) (g71 : G_schema_table_1) (s0 : S_schema_table_0) (s1 : S_schema_table_1) (s2 : S_schema_table_2) (s3 : S_schema_table_3) (s4 : S_schema_table_4) (x0 : ByteArray) (x1 : Int) (x2 : List D_api_Col) (ret : (((Int × Unit)) ⊕ Unit) → Option β) : Option β := (bif (decide (x1 < (1 : Int))) then ((s2 true x0 x1 x2).bind ret) else ((s2 (decide (x1 > (if (((List.length x2) : Int) < (3 : Int)) then ((List.length x2) : Int) else (3 : Int)))) x0 x1 x2).bind ret))
def schema_table.s2c {β : Type} (g50 : G_schema_words) (g51 : G_schema_col) (g68 : G_names_Check) (g69 : G_names_Unlike) (g70 : G_api_Col_70) (g71 : G_schema_table_1) (s0 : S_schema_table_0) (s1 : S_schema_table_1) (s2 : S_schema_table_2) (s3 : S_schema_table_3) (s4 : S_schema_table_4) (x0 : Bool) (x1 : ByteArray) (x2 : Int) (x3 : List D_api_Col) (ret : (((Int × Unit)) ⊕ Unit) → Option β) : Option β := (bif x0 then (ret (.inl (((1 : Int), ())))) else ((s3 x1 x2 x3).bind ret))
def schema_table.s3c {β : Type} (g50 : G_schema_words) (g51 : G_schema_col) (g68 : G_names_Check) (g69 : G_names_Unlike) (g70 : G_api_Col_70) (g71 : G_schema_table_1) (s0 : S_schema_table_0) (s1 : S_schema_table_1) (s2 : S_schema_table_2) (s3 : S_schema_table_3) (s4 : S_schema_table_4) (x0 : ByteArray) (x1 : Int) (x2 : List D_api_Col) (ret : (((Int × Unit)) ⊕ Unit) → Option β) : Option β := ((s4 x2 ((List.length x2) : Int) (0 : Int) x0 x1 x2).bind ret)
def schema_table.s4c {β : Type} (g50 : G_schema_words) (g51 : G_schema_col) (g68 : G_names_Check) (g69 : G_names_Unlike) (g70 : G_api_Col_70) (g71 : G_schema_table_1) (s0 : S_schema_table_0) (s1 : S_schema_table_1) (s2 : S_schema_table_2) (s3 : S_schema_table_3) (s4 : S_schema_table_4) (x0 : List D_api_Col) (x1 : Int) (x2 : Int) (x3 : ByteArray) (x4 : Int) (x5 : List D_api_Col) (ret : (((Int × Unit)) ⊕ Unit) → Option β) : Option β := (bif (decide (x2 < x1)) then (bif ((decide ((0 : Int) ≤ x2)) && (decide (x2 < ((List.length x0) : Int)))) then ((g51 (elem T_api_Col x0 x2).1 (elem T_api_Col x0 x2).2.1 (elem T_api_Col x0 x2).2.2.1 (elem T_api_Col x0 x2).2.2.2.1.1 (elem T_api_Col x0 x2).2.2.2.1.2.1 (elem T_api_Col x0 x2).2.2.2.1.2.2.1 (elem T_api_Col x0 x2).2.2.2.1.2.2.2.1).bind fun r0 => (Sum.elim (fun r1 => (ret (.inl (r1)))) (fun r2 => ((s4 x0 x1 (IntKind.wrap IntKind.i64 (x2 + (1 : Int))) x3 x4 x5).bind ret)) r0)) else none) else ((g50 x5).bind fun r3 => ((g69 r3).bind fun r4 => (bif (!r4) then (ret (.inl (((12 : Int), ())))) else (bif ((true && (decide ((0 : Int) ≤ x4))) && (decide (x4 ≤ ((List.length x5) : Int)))) then ((g70 (List.take ((Int.toNat x4) - (0 : Nat)) (List.drop (0 : Nat) x5))).bind fun r5 => (bif r5 then (ret (.inl (((11 : Int), ())))) else (ret (.inr ())))) else none)))))
theorem schema_table.c_bind {β : Type} {g50 : G_schema_words} {g51 : G_schema_col} {g68 : G_names_Check} {g69 : G_names_Unlike} {g70 : G_api_Col_70} {g71 : G_schema_table_1} {s0 : S_schema_table_0} {s1 : S_schema_table_1} {s2 : S_schema_table_2} {s3 : S_schema_table_3} {s4 : S_schema_table_4} {a0 : ByteArray} {a1 : Int} {a2 : List D_api_Col} {ret : (((Int × Unit)) ⊕ Unit) → Option β} : schema_table.c g50 g51 g68 g69 g70 g71 s0 s1 s2 s3 s4 a0 a1 a2 ret = (schema_table.c g50 g51 g68 g69 g70 g71 s0 s1 s2 s3 s4 a0 a1 a2 some).bind ret := by
  simp only [schema_table.c, bif_bind, sum_bind, Option.bind_assoc, Option.bind_some, Option.bind_none, Option.bind_fun_some]
theorem schema_table.s0c_bind {β : Type} {g50 : G_schema_words} {g51 : G_schema_col} {g68 : G_names_Check} {g69 : G_names_Unlike} {g70 : G_api_Col_70} {g71 : G_schema_table_1} {s0 : S_schema_table_0} {s1 : S_schema_table_1} {s2 : S_schema_table_2} {s3 : S_schema_table_3} {s4 : S_schema_table_4} {x0 : Bool} {x1 : ByteArray} {x2 : Int} {x3 : List D_api_Col} {ret : (((Int × Unit)) ⊕ Unit) → Option β} : schema_table.s0c g50 g51 g68 g69 g70 g71 s0 s1 s2 s3 s4 x0 x1 x2 x3 ret = (schema_table.s0c g50 g51 g68 g69 g70 g71 s0 s1 s2 s3 s4 x0 x1 x2 x3 some).bind ret := by
  simp only [schema_table.s0c, bif_bind, sum_bind, Option.bind_assoc, Option.bind_some, Option.bind_none, Option.bind_fun_some]
theorem schema_table.s1c_bind {β : Type} {g50 : G_schema_words} {g51 : G_schema_col} {g68 : G_names_Check} {g69 : G_names_Unlike} {g70 : G_api_Col_70} {g71 : G_schema_table_1} {s0 : S_schema_table_0} {s1 : S_schema_table_1} {s2 : S_schema_table_2} {s3 : S_schema_table_3} {s4 : S_schema_table_4} {x0 : ByteArray} {x1 : Int} {x2 : List D_api_Col} {ret : (((Int × Unit)) ⊕ Unit) → Option β} : schema_table.s1c g50 g51 g68 g69 g70 g71 s0 s1 s2 s3 s4 x0 x1 x2 ret = (schema_table.s1c g50 g51 g68 g69 g70 g71 s0 s1 s2 s3 s4 x0 x1 x2 some).bind ret := by
  simp only [schema_table.s1c, bif_bind, sum_bind, Option.bind_assoc, Option.bind_some, Option.bind_none, Option.bind_fun_some]
theorem schema_table.s2c_bind {β : Type} {g50 : G_schema_words} {g51 : G_schema_col} {g68 : G_names_Check} {g69 : G_names_Unlike} {g70 : G_api_Col_70} {g71 : G_schema_table_1} {s0 : S_schema_table_0} {s1 : S_schema_table_1} {s2 : S_schema_table_2} {s3 : S_schema_table_3} {s4 : S_schema_table_4} {x0 : Bool} {x1 : ByteArray} {x2 : Int} {x3 : List D_api_Col} {ret : (((Int × Unit)) ⊕ Unit) → Option β} : schema_table.s2c g50 g51 g68 g69 g70 g71 s0 s1 s2 s3 s4 x0 x1 x2 x3 ret = (schema_table.s2c g50 g51 g68 g69 g70 g71 s0 s1 s2 s3 s4 x0 x1 x2 x3 some).bind ret := by
  simp only [schema_table.s2c, bif_bind, sum_bind, Option.bind_assoc, Option.bind_some, Option.bind_none, Option.bind_fun_some]
theorem schema_table.s3c_bind {β : Type} {g50 : G_schema_words} {g51 : G_schema_col} {g68 : G_names_Check} {g69 : G_names_Unlike} {g70 : G_api_Col_70} {g71 : G_schema_table_1} {s0 : S_schema_table_0} {s1 : S_schema_table_1} {s2 : S_schema_table_2} {s3 : S_schema_table_3} {s4 : S_schema_table_4} {x0 : ByteArray} {x1 : Int} {x2 : List D_api_Col} {ret : (((Int × Unit)) ⊕ Unit) → Option β} : schema_table.s3c g50 g51 g68 g69 g70 g71 s0 s1 s2 s3 s4 x0 x1 x2 ret = (schema_table.s3c g50 g51 g68 g69 g70 g71 s0 s1 s2 s3 s4 x0 x1 x2 some).bind ret := by
  simp only [schema_table.s3c, bif_bind, sum_bind, Option.bind_assoc, Option.bind_some, Option.bind_none, Option.bind_fun_some]
theorem schema_table.s4c_bind {β : Type} {g50 : G_schema_words} {g51 : G_schema_col} {g68 : G_names_Check} {g69 : G_names_Unlike} {g70 : G_api_Col_70} {g71 : G_schema_table_1} {s0 : S_schema_table_0} {s1 : S_schema_table_1} {s2 : S_schema_table_2} {s3 : S_schema_table_3} {s4 : S_schema_table_4} {x0 : List D_api_Col} {x1 : Int} {x2 : Int} {x3 : ByteArray} {x4 : Int} {x5 : List D_api_Col} {ret : (((Int × Unit)) ⊕ Unit) → Option β} : schema_table.s4c g50 g51 g68 g69 g70 g71 s0 s1 s2 s3 s4 x0 x1 x2 x3 x4 x5 ret = (schema_table.s4c g50 g51 g68 g69 g70 g71 s0 s1 s2 s3 s4 x0 x1 x2 x3 x4 x5 some).bind ret := by
  simp only [schema_table.s4c, bif_bind, sum_bind, Option.bind_assoc, Option.bind_some, Option.bind_none, Option.bind_fun_some]
theorem schema_table.ev {g50 : G_schema_words} {g51 : G_schema_col} {g68 : G_names_Check} {g69 : G_names_Unlike} {g70 : G_api_Col_70} {g71 : G_schema_table_1} {s0 : S_schema_table_0} {s1 : S_schema_table_1} {s2 : S_schema_table_2} {s3 : S_schema_table_3} {s4 : S_schema_table_4} {a0 : ByteArray} {a1 : Int} {a2 : List D_api_Col} : evAt (env_schema_table g50 g51 g68 g69 g70 g71 s0 s1 s2 s3 s4) [] [0] [.v (.agg [(.d .str a0), (.d (.int .i64) a1), (.d (.sl T_api_Col) a2)])] [] some = schema_table.c g50 g51 g68 g69 g70 g71 s0 s1 s2 s3 s4 a0 a1 a2 (fun r => Sum.elim (fun r => some ⟨.v (.one (.ifc 105 true (.pair (.int .i64) .unit) r)), []⟩) (fun r => some ⟨.v (.one (.raw (.nilIface))), []⟩) r) := by
  kernel_rfl
theorem schema_table.s0_ev {g50 : G_schema_words} {g51 : G_schema_col} {g68 : G_names_Check} {g69 : G_names_Unlike} {g70 : G_api_Col_70} {g71 : G_schema_table_1} {s0 : S_schema_table_0} {s1 : S_schema_table_1} {s2 : S_schema_table_2} {s3 : S_schema_table_3} {s4 : S_schema_table_4} {x0 : Bool} {x1 : ByteArray} {x2 : Int} {x3 : List D_api_Col} : evAt (env_schema_table g50 g51 g68 g69 g70 g71 s0 s1 s2 s3 s4) [1, 0, 1, 1] [1, 24] [.v (.one (.ptr 0 0)), .v (.one (.d .bool x0))] [some (.box [(.d .str x1), (.d (.int .i64) x2), (.d (.sl T_api_Col) x3)])] some = schema_table.s0c g50 g51 g68 g69 g70 g71 s0 s1 s2 s3 s4 x0 x1 x2 x3 (fun r => Sum.elim (fun r => some ⟨.v (.one (.ifc 105 true (.pair (.int .i64) .unit) r)), []⟩) (fun r => some ⟨.v (.one (.raw (.nilIface))), []⟩) r) := by
  kernel_rfl
theorem schema_table.s1_ev {g50 : G_schema_words} {g51 : G_schema_col} {g68 : G_names_Check} {g69 : G_names_Unlike} {g70 : G_api_Col_70} {g71 : G_schema_table_1} {s0 : S_schema_table_0} {s1 : S_schema_table_1} {s2 : S_schema_table_2} {s3 : S_schema_table_3} {s4 : S_schema_table_4} {x0 : ByteArray} {x1 : Int} {x2 : List D_api_Col} : evAt (env_schema_table g50 g51 g68 g69 g70 g71 s0 s1 s2 s3 s4) [1, 1, 1] [1] [.v (.one (.ptr 0 0))] [some (.box [(.d .str x0), (.d (.int .i64) x1), (.d (.sl T_api_Col) x2)])] some = schema_table.s1c g50 g51 g68 g69 g70 g71 s0 s1 s2 s3 s4 x0 x1 x2 (fun r => Sum.elim (fun r => some ⟨.v (.one (.ifc 105 true (.pair (.int .i64) .unit) r)), []⟩) (fun r => some ⟨.v (.one (.raw (.nilIface))), []⟩) r) := by
  kernel_rfl
theorem schema_table.s2_ev {g50 : G_schema_words} {g51 : G_schema_col} {g68 : G_names_Check} {g69 : G_names_Unlike} {g70 : G_api_Col_70} {g71 : G_schema_table_1} {s0 : S_schema_table_0} {s1 : S_schema_table_1} {s2 : S_schema_table_2} {s3 : S_schema_table_3} {s4 : S_schema_table_4} {x0 : Bool} {x1 : ByteArray} {x2 : Int} {x3 : List D_api_Col} : evAt (env_schema_table g50 g51 g68 g69 g70 g71 s0 s1 s2 s3 s4) [1, 0, 1, 1, 1] [1, 38] [.v (.one (.ptr 0 0)), .v (.one (.d .bool x0))] [some (.box [(.d .str x1), (.d (.int .i64) x2), (.d (.sl T_api_Col) x3)])] some = schema_table.s2c g50 g51 g68 g69 g70 g71 s0 s1 s2 s3 s4 x0 x1 x2 x3 (fun r => Sum.elim (fun r => some ⟨.v (.one (.ifc 105 true (.pair (.int .i64) .unit) r)), []⟩) (fun r => some ⟨.v (.one (.raw (.nilIface))), []⟩) r) := by
  kernel_rfl
theorem schema_table.s3_ev {g50 : G_schema_words} {g51 : G_schema_col} {g68 : G_names_Check} {g69 : G_names_Unlike} {g70 : G_api_Col_70} {g71 : G_schema_table_1} {s0 : S_schema_table_0} {s1 : S_schema_table_1} {s2 : S_schema_table_2} {s3 : S_schema_table_3} {s4 : S_schema_table_4} {x0 : ByteArray} {x1 : Int} {x2 : List D_api_Col} : evAt (env_schema_table g50 g51 g68 g69 g70 g71 s0 s1 s2 s3 s4) [1, 1, 1, 1] [1] [.v (.one (.ptr 0 0))] [some (.box [(.d .str x0), (.d (.int .i64) x1), (.d (.sl T_api_Col) x2)])] some = schema_table.s3c g50 g51 g68 g69 g70 g71 s0 s1 s2 s3 s4 x0 x1 x2 (fun r => Sum.elim (fun r => some ⟨.v (.one (.ifc 105 true (.pair (.int .i64) .unit) r)), []⟩) (fun r => some ⟨.v (.one (.raw (.nilIface))), []⟩) r) := by
  kernel_rfl
theorem schema_table.s4_ev {g50 : G_schema_words} {g51 : G_schema_col} {g68 : G_names_Check} {g69 : G_names_Unlike} {g70 : G_api_Col_70} {g71 : G_schema_table_1} {s0 : S_schema_table_0} {s1 : S_schema_table_1} {s2 : S_schema_table_2} {s3 : S_schema_table_3} {s4 : S_schema_table_4} {x0 : List D_api_Col} {x1 : Int} {x2 : Int} {x3 : ByteArray} {x4 : Int} {x5 : List D_api_Col} : evAt (env_schema_table g50 g51 g68 g69 g70 g71 s0 s1 s2 s3 s4) [4, 1, 0, 1, 1, 1, 1] [1, 42, 43, 44] [.v (.one (.ptr 0 0)), .v (.one (.d (.sl T_api_Col) x0)), .v (.one (.d (.int .i64) x1)), .v (.one (.d (.int .i64) x2))] [some (.box [(.d .str x3), (.d (.int .i64) x4), (.d (.sl T_api_Col) x5)])] some = schema_table.s4c g50 g51 g68 g69 g70 g71 s0 s1 s2 s3 s4 x0 x1 x2 x3 x4 x5 (fun r => Sum.elim (fun r => some ⟨.v (.one (.ifc 105 true (.pair (.int .i64) .unit) r)), []⟩) (fun r => some ⟨.v (.one (.raw (.nilIface))), []⟩) r) := by
  kernel_rfl
mutual
def schema_table.s0 : Nat → Bool → ByteArray → Int → (List D_api_Col) → Option (((Int × Unit)) ⊕ Unit)
  | 0, _, _, _, _ => none
  | k + 1, x0, x1, x2, x3 => schema_table.s0c (schema_words.f k) (schema_col.f k) (names_Check.f k) (names_Unlike.f k) (api_Col_70.f k) (schema_table_1.f k) (schema_table.s0 k) (schema_table.s1 k) (schema_table.s2 k) (schema_table.s3 k) (schema_table.s4 k) x0 x1 x2 x3 some
def schema_table.s1 : Nat → ByteArray → Int → (List D_api_Col) → Option (((Int × Unit)) ⊕ Unit)
  | 0, _, _, _ => none
  | k + 1, x0, x1, x2 => schema_table.s1c (schema_words.f k) (schema_col.f k) (names_Check.f k) (names_Unlike.f k) (api_Col_70.f k) (schema_table_1.f k) (schema_table.s0 k) (schema_table.s1 k) (schema_table.s2 k) (schema_table.s3 k) (schema_table.s4 k) x0 x1 x2 some
def schema_table.s2 : Nat → Bool → ByteArray → Int → (List D_api_Col) → Option (((Int × Unit)) ⊕ Unit)
  | 0, _, _, _, _ => none
  | k + 1, x0, x1, x2, x3 => schema_table.s2c (schema_words.f k) (schema_col.f k) (names_Check.f k) (names_Unlike.f k) (api_Col_70.f k) (schema_table_1.f k) (schema_table.s0 k) (schema_table.s1 k) (schema_table.s2 k) (schema_table.s3 k) (schema_table.s4 k) x0 x1 x2 x3 some
def schema_table.s3 : Nat → ByteArray → Int → (List D_api_Col) → Option (((Int × Unit)) ⊕ Unit)
  | 0, _, _, _ => none
  | k + 1, x0, x1, x2 => schema_table.s3c (schema_words.f k) (schema_col.f k) (names_Check.f k) (names_Unlike.f k) (api_Col_70.f k) (schema_table_1.f k) (schema_table.s0 k) (schema_table.s1 k) (schema_table.s2 k) (schema_table.s3 k) (schema_table.s4 k) x0 x1 x2 some
def schema_table.s4 : Nat → (List D_api_Col) → Int → Int → ByteArray → Int → (List D_api_Col) → Option (((Int × Unit)) ⊕ Unit)
  | 0, _, _, _, _, _, _ => none
  | k + 1, x0, x1, x2, x3, x4, x5 => schema_table.s4c (schema_words.f k) (schema_col.f k) (names_Check.f k) (names_Unlike.f k) (api_Col_70.f k) (schema_table_1.f k) (schema_table.s0 k) (schema_table.s1 k) (schema_table.s2 k) (schema_table.s3 k) (schema_table.s4 k) x0 x1 x2 x3 x4 x5 some
end
def schema_table.f (k : Nat) (a0 : ByteArray) (a1 : Int) (a2 : List D_api_Col) : Option (((Int × Unit)) ⊕ Unit) := schema_table.c (schema_words.f k) (schema_col.f k) (names_Check.f k) (names_Unlike.f k) (api_Col_70.f k) (schema_table_1.f k) (schema_table.s0 k) (schema_table.s1 k) (schema_table.s2 k) (schema_table.s3 k) (schema_table.s4 k) a0 a1 a2 some
theorem schema_table.is {g50 : G_schema_words} {g51 : G_schema_col} {g68 : G_names_Check} {g69 : G_names_Unlike} {g70 : G_api_Col_70} {g71 : G_schema_table_1} {s0 : S_schema_table_0} {s1 : S_schema_table_1} {s2 : S_schema_table_2} {s3 : S_schema_table_3} {s4 : S_schema_table_4} : FnIs (env_schema_table g50 g51 g68 g69 g70 g71 s0 s1 s2 s3 s4) 48 Go.Proofs.Tryz.f48 := ⟨Go.Proofs.Tryz.func48, rfl, rfl, rfl, by decide⟩
theorem schema_table.envok {g50 : G_schema_words} {g51 : G_schema_col} {g68 : G_names_Check} {g69 : G_names_Unlike} {g70 : G_api_Col_70} {g71 : G_schema_table_1} {s0 : S_schema_table_0} {s1 : S_schema_table_1} {s2 : S_schema_table_2} {s3 : S_schema_table_3} {s4 : S_schema_table_4} (h50 : CtOK Go.Proofs.Tryz.prog 50 (ct_schema_words g50)) (h51 : CtOK Go.Proofs.Tryz.prog 51 (ct_schema_col g51)) (h68 : CtOK Go.Proofs.Tryz.prog 68 (ct_names_Check g68)) (h69 : CtOK Go.Proofs.Tryz.prog 69 (ct_names_Unlike g69)) (h70 : CtOK Go.Proofs.Tryz.prog 70 (ct_api_Col_70 g70)) (h71 : CtOK Go.Proofs.Tryz.prog 71 (ct_schema_table_1 g71)) : EnvOK (env_schema_table g50 g51 g68 g69 g70 g71 s0 s1 s2 s3 s4).toEnv := by
  intro f c h
  simp only [env_schema_table] at h
  split at h
  · rename_i e; subst e; cases h; exact h50
  split at h
  · rename_i e; subst e; cases h; exact h51
  split at h
  · rename_i e; subst e; cases h; exact h68
  split at h
  · rename_i e; subst e; cases h; exact h69
  split at h
  · rename_i e; subst e; cases h; exact h70
  split at h
  · rename_i e; subst e; cases h; exact h71
  simp at h
noncomputable abbrev schema_table.E (k : Nat) : FEnv := env_schema_table (schema_words.f k) (schema_col.f k) (names_Check.f k) (names_Unlike.f k) (api_Col_70.f k) (schema_table_1.f k) (schema_table.s0 k) (schema_table.s1 k) (schema_table.s2 k) (schema_table.s3 k) (schema_table.s4 k)
theorem schema_table.hE (k : Nat) : EnvOK (schema_table.E k).toEnv := schema_table.envok (schema_words.ok k) (schema_col.ok k) (names_Check.ok k) (names_Unlike.ok k) (api_Col_70.ok k) (schema_table_1.ok k)
theorem schema_table.segs_ok : ∀ k, ∀ s ∈ (schema_table.E k).segs, SegOK (schema_table.E k) Go.Proofs.Tryz.f48 s
  | 0 => by
    intro s hs
    simp only [schema_table.E, env_schema_table, List.mem_cons, List.not_mem_nil, or_false] at hs
    rcases hs with rfl | rfl | rfl | rfl | rfl
    · intro tvs blks res h; exfalso; simp only [seg_schema_table_0] at h; split at h <;> simp [schema_table.s0] at h
    · intro tvs blks res h; exfalso; simp only [seg_schema_table_1] at h; split at h <;> simp [schema_table.s1] at h
    · intro tvs blks res h; exfalso; simp only [seg_schema_table_2] at h; split at h <;> simp [schema_table.s2] at h
    · intro tvs blks res h; exfalso; simp only [seg_schema_table_3] at h; split at h <;> simp [schema_table.s3] at h
    · intro tvs blks res h; exfalso; simp only [seg_schema_table_4] at h; split at h <;> simp [schema_table.s4] at h
  | k + 1 => by
    intro s hs
    simp only [schema_table.E, env_schema_table, List.mem_cons, List.not_mem_nil, or_false] at hs
    rcases hs with rfl | rfl | rfl | rfl | rfl
    · refine seg_of_ev (E := schema_table.E k) (schema_table.hE k) ⟨schema_table.is.rvs⟩ (schema_table.segs_ok k) ?_
      intro tvs blks res h
      simp only [seg_schema_table_0] at h
      split at h
      · exact (schema_table.s0_ev.trans schema_table.s0c_bind).trans h
      · simp at h
    · refine seg_of_ev (E := schema_table.E k) (schema_table.hE k) ⟨schema_table.is.rvs⟩ (schema_table.segs_ok k) ?_
      intro tvs blks res h
      simp only [seg_schema_table_1] at h
      split at h
      · exact (schema_table.s1_ev.trans schema_table.s1c_bind).trans h
      · simp at h
    · refine seg_of_ev (E := schema_table.E k) (schema_table.hE k) ⟨schema_table.is.rvs⟩ (schema_table.segs_ok k) ?_
      intro tvs blks res h
      simp only [seg_schema_table_2] at h
      split at h
      · exact (schema_table.s2_ev.trans schema_table.s2c_bind).trans h
      · simp at h
    · refine seg_of_ev (E := schema_table.E k) (schema_table.hE k) ⟨schema_table.is.rvs⟩ (schema_table.segs_ok k) ?_
      intro tvs blks res h
      simp only [seg_schema_table_3] at h
      split at h
      · exact (schema_table.s3_ev.trans schema_table.s3c_bind).trans h
      · simp at h
    · refine seg_of_ev (E := schema_table.E k) (schema_table.hE k) ⟨schema_table.is.rvs⟩ (schema_table.segs_ok k) ?_
      intro tvs blks res h
      simp only [seg_schema_table_4] at h
      split at h
      · exact (schema_table.s4_ev.trans schema_table.s4c_bind).trans h
      · simp at h
theorem schema_table.ok (k : Nat) : CtOK Go.Proofs.Tryz.prog 48 (ct_schema_table (schema_table.f k)) := by
  refine ct_of_ev (E := schema_table.E k) schema_table.is (schema_table.hE k) (schema_table.segs_ok k) rfl ?_
  intro tvs blks res h
  simp only [ct_schema_table] at h
  split at h
  · exact (schema_table.ev.trans schema_table.c_bind).trans h
  · simp at h

/-! ### schema_Check: function 22 -/
abbrev G_schema_Check : Type := ByteArray → Int → (List D_api_Col) → Option Int
def ct_schema_Check (g : G_schema_Check) : Ct where
  nin := 0
  mv := []
  F := fun tvs blks {β} K => match tvs, blks with
    | [.v (.agg [(.d .str a0), (.d (.int .i64) a1), (.d (.sl (.pair .str (.pair (.int .i64) (.pair .bool (.pair (.pair (.int .i64) (.pair (.int .i64) (.pair (.int .u64) (.pair .str .unit)))) .unit))))) a2)])], [] => (g a0 a1 a2).bind fun r => K ⟨.v (.one (.d (.int .i64) r)), []⟩
    | _, _ => none
  legit := fun tvs blks K r h => by
    split at h
    · obtain ⟨x, hx, hk⟩ := Option.bind_eq_some_iff.1 h
      refine ⟨_, ?_, hk⟩
      simp only [hx, Option.bind_some]
    · simp at h
noncomputable def env_schema_Check (g48 : G_schema_table)  : FEnv := { P := Go.Proofs.Tryz.prog, ct := fun m => if m = 47 then some (ct_schema_number ) else if m = 48 then some (ct_schema_table g48) else none, N := 6, body := Go.Proofs.Tryz.f22.body.getD .skip, rvs := [.tmp 2], rts := [29], nin := 0, rmv := [], segs := [] }
def schema_Check.c {β : Type} (g48 : G_schema_table)  (a0 : ByteArray) (a1 : Int) (a2 : List D_api_Col) (ret : Int → Option β) : Option β := ((g48 a0 a1 a2).bind fun r0 => (Sum.elim (fun r1 => (ret (r1.1))) (fun r2 => (ret ((0 : Int)))) r0))
theorem schema_Check.c_bind {β : Type} {g48 : G_schema_table}  {a0 : ByteArray} {a1 : Int} {a2 : List D_api_Col} {ret : Int → Option β} : schema_Check.c g48  a0 a1 a2 ret = (schema_Check.c g48  a0 a1 a2 some).bind ret := by
  simp only [schema_Check.c, bif_bind, sum_bind, Option.bind_assoc, Option.bind_some, Option.bind_none, Option.bind_fun_some]
theorem schema_Check.ev {g48 : G_schema_table}  {a0 : ByteArray} {a1 : Int} {a2 : List D_api_Col} : evAt (env_schema_Check g48 ) [] [0] [.v (.agg [(.d .str a0), (.d (.int .i64) a1), (.d (.sl T_api_Col) a2)])] [] some = schema_Check.c g48  a0 a1 a2 (fun r => some ⟨.v (.one (.d (.int .i64) r)), []⟩) := by
  kernel_rfl
def schema_Check.f (k : Nat) (a0 : ByteArray) (a1 : Int) (a2 : List D_api_Col) : Option Int := schema_Check.c  (schema_table.f k)  a0 a1 a2 some
theorem schema_Check.is {g48 : G_schema_table}  : FnIs (env_schema_Check g48 ) 22 Go.Proofs.Tryz.f22 := ⟨Go.Proofs.Tryz.func22, rfl, rfl, rfl, by decide⟩
theorem schema_Check.envok {g48 : G_schema_table}  (h47 : CtOK Go.Proofs.Tryz.prog 47 (ct_schema_number )) (h48 : CtOK Go.Proofs.Tryz.prog 48 (ct_schema_table g48)) : EnvOK (env_schema_Check g48 ).toEnv := by
  intro f c h
  simp only [env_schema_Check] at h
  split at h
  · rename_i e; subst e; cases h; exact h47
  split at h
  · rename_i e; subst e; cases h; exact h48
  simp at h
noncomputable abbrev schema_Check.E (k : Nat) : FEnv := env_schema_Check  (schema_table.f k) 
theorem schema_Check.hE (k : Nat) : EnvOK (schema_Check.E k).toEnv := schema_Check.envok (schema_number.ok k) (schema_table.ok k)
theorem schema_Check.ok (k : Nat) : CtOK Go.Proofs.Tryz.prog 22 (ct_schema_Check (schema_Check.f k)) := by
  refine ct_of_ev (E := schema_Check.E k) schema_Check.is (schema_Check.hE k) (fun s hs => by simp [schema_Check.E, env_schema_Check] at hs) rfl ?_
  intro tvs blks res h
  simp only [ct_schema_Check] at h
  split at h
  · exact (schema_Check.ev.trans schema_Check.c_bind).trans h
  · simp at h

/-! ### schema_fits: function 27 -/
abbrev G_schema_fits : Type := ByteArray → Int → (List D_api_Col) → (List D_api_Value) → Option Int
def ct_schema_fits (g : G_schema_fits) : Ct where
  nin := 0
  mv := []
  F := fun tvs blks {β} K => match tvs, blks with
    | [.v (.agg [(.d .str a0), (.d (.int .i64) a1), (.d (.sl (.pair .str (.pair (.int .i64) (.pair .bool (.pair (.pair (.int .i64) (.pair (.int .i64) (.pair (.int .u64) (.pair .str .unit)))) .unit))))) a2)]), .v (.one (.d (.sl (.pair (.int .i64) (.pair (.int .i64) (.pair (.int .u64) (.pair .str .unit))))) a3))], [] => (g a0 a1 a2 a3).bind fun r => K ⟨.v (.one (.d (.int .i64) r)), []⟩
    | _, _ => none
  legit := fun tvs blks K r h => by
    split at h
    · obtain ⟨x, hx, hk⟩ := Option.bind_eq_some_iff.1 h
      refine ⟨_, ?_, hk⟩
      simp only [hx, Option.bind_some]
    · simp at h
abbrev S_schema_fits_0 : Type := (List D_api_Value) → Int → Int → ByteArray → Int → (List D_api_Col) → Option Int
abbrev S_schema_fits_1 : Type := (List D_api_Value) → Int → Int → Bool → ByteArray → Int → (List D_api_Col) → Option Int
abbrev S_schema_fits_2 : Type := (List D_api_Value) → Int → Int → ByteArray → Int → (List D_api_Col) → Option Int
def seg_schema_fits_0 (g : S_schema_fits_0) : Seg where
  path := [4, 1, 0, 1]
  prep := []
  keep := [2, 9, 10, 11]
  F := fun tvs blks {β} K => match tvs, blks with
    | [.v (.one (.ptr 0 0)), .v (.one (.d (.sl (.pair (.int .i64) (.pair (.int .i64) (.pair (.int .u64) (.pair .str .unit))))) x0)), .v (.one (.d (.int .i64) x1)), .v (.one (.d (.int .i64) x2))], [some (.box [(.d .str x3), (.d (.int .i64) x4), (.d (.sl (.pair .str (.pair (.int .i64) (.pair .bool (.pair (.pair (.int .i64) (.pair (.int .i64) (.pair (.int .u64) (.pair .str .unit)))) .unit))))) x5)])] => (g x0 x1 x2 x3 x4 x5).bind fun r => K ⟨.v (.one (.d (.int .i64) r)), []⟩
    | _, _ => none
  legit := fun tvs blks K r h => by
    split at h
    · obtain ⟨x, hx, hk⟩ := Option.bind_eq_some_iff.1 h
      refine ⟨_, ?_, hk⟩
      simp only [hx, Option.bind_some]
    · simp at h
def seg_schema_fits_1 (g : S_schema_fits_1) : Seg where
  path := [1, 1, 1, 1, 4, 0, 1, 1, 5, 4, 1, 0, 1]
  prep := []
  keep := [2, 9, 10, 11, 40]
  F := fun tvs blks {β} K => match tvs, blks with
    | [.v (.one (.ptr 0 0)), .v (.one (.d (.sl (.pair (.int .i64) (.pair (.int .i64) (.pair (.int .u64) (.pair .str .unit))))) x0)), .v (.one (.d (.int .i64) x1)), .v (.one (.d (.int .i64) x2)), .v (.one (.d .bool x3))], [some (.box [(.d .str x4), (.d (.int .i64) x5), (.d (.sl (.pair .str (.pair (.int .i64) (.pair .bool (.pair (.pair (.int .i64) (.pair (.int .i64) (.pair (.int .u64) (.pair .str .unit)))) .unit))))) x6)])] => (g x0 x1 x2 x3 x4 x5 x6).bind fun r => K ⟨.v (.one (.d (.int .i64) r)), []⟩
    | _, _ => none
  legit := fun tvs blks K r h => by
    split at h
    · obtain ⟨x, hx, hk⟩ := Option.bind_eq_some_iff.1 h
      refine ⟨_, ?_, hk⟩
      simp only [hx, Option.bind_some]
    · simp at h
def seg_schema_fits_2 (g : S_schema_fits_2) : Seg where
  path := [1, 1, 1, 5, 4, 1, 0, 1]
  prep := []
  keep := [2, 9, 10, 11]
  F := fun tvs blks {β} K => match tvs, blks with
    | [.v (.one (.ptr 0 0)), .v (.one (.d (.sl (.pair (.int .i64) (.pair (.int .i64) (.pair (.int .u64) (.pair .str .unit))))) x0)), .v (.one (.d (.int .i64) x1)), .v (.one (.d (.int .i64) x2))], [some (.box [(.d .str x3), (.d (.int .i64) x4), (.d (.sl (.pair .str (.pair (.int .i64) (.pair .bool (.pair (.pair (.int .i64) (.pair (.int .i64) (.pair (.int .u64) (.pair .str .unit)))) .unit))))) x5)])] => (g x0 x1 x2 x3 x4 x5).bind fun r => K ⟨.v (.one (.d (.int .i64) r)), []⟩
    | _, _ => none
  legit := fun tvs blks K r h => by
    split at h
    · obtain ⟨x, hx, hk⟩ := Option.bind_eq_some_iff.1 h
      refine ⟨_, ?_, hk⟩
      simp only [hx, Option.bind_some]
    · simp at h
noncomputable def env_schema_fits (g52 : G_values_Check) (s0 : S_schema_fits_0) (s1 : S_schema_fits_1) (s2 : S_schema_fits_2) : FEnv := { P := Go.Proofs.Tryz.prog, ct := fun m => if m = 52 then some (ct_values_Check g52) else none, N := 42, body := Go.Proofs.Tryz.f27.body.getD .skip, rvs := [.tmp 4], rts := [29], nin := 0, rmv := [], segs := [seg_schema_fits_0 s0, seg_schema_fits_1 s1, seg_schema_fits_2 s2] }
def schema_fits.c {β : Type} (g52 : G_values_Check) (s0 : S_schema_fits_0) (s1 : S_schema_fits_1) (s2 : S_schema_fits_2) (a0 : ByteArray) (a1 : Int) (a2 : List D_api_Col) (a3 : List D_api_Value) (ret : Int → Option β) : Option β := ((s0 a3 ((List.length a3) : Int) (0 : Int) a0 a1 a2).bind ret)
def schema_fits.s0c {β : Type} (g52 : G_values_Check) (s0 : S_schema_fits_0) (s1 : S_schema_fits_1) (s2 : S_schema_fits_2) (x0 : List D_api_Value) (x1 : Int) (x2 : Int) (x3 : ByteArray) (x4 : Int) (x5 : List D_api_Col) (ret : Int → Option β) : Option β := (bif (decide (x2 < x1)) then (bif ((decide ((0 : Int) ≤ x2)) && (decide (x2 < ((List.length x0) : Int)))) then ((g52 (elem T_api_Value x0 x2).1 (elem T_api_Value x0 x2).2.1 (elem T_api_Value x0 x2).2.2.1 (elem T_api_Value x0 x2).2.2.2.1).bind fun r0 => (bif (r0 != (0 : Int)) then (ret (r0)) else (bif ((decide ((0 : Int) ≤ x2)) && (decide (x2 < ((List.length x5) : Int)))) then (bif ((elem T_api_Value x0 x2).1 != (elem T_api_Col x5 x2).2.1) then (bif ((elem T_api_Value x0 x2).1 != (0 : Int)) then ((s1 x0 x1 x2 true x3 x4 x5).bind ret) else ((s1 x0 x1 x2 (!(elem T_api_Col x5 x2).2.2.1) x3 x4 x5).bind ret)) else ((s1 x0 x1 x2 false x3 x4 x5).bind ret)) else none))) else none) else (ret ((0 : Int))))
def schema_fits.s1c {β : Type} (g52 : G_values_Check) (s0 : S_schema_fits_0) (s1 : S_schema_fits_1) (s2 : S_schema_fits_2) (x0 : List D_api_Value) (x1 : Int) (x2 : Int) (x3 : Bool) (x4 : ByteArray) (x5 : Int) (x6 : List D_api_Col) (ret : Int → Option β) : Option β := (bif x3 then (ret ((11 : Int))) else ((s2 x0 x1 x2 x4 x5 x6).bind ret))
def schema_fits.s2c {β : Type} (g52 : G_values_Check) (s0 : S_schema_fits_0) (s1 : S_schema_fits_1) (s2 : S_schema_fits_2) (x0 : List D_api_Value) (x1 : Int) (x2 : Int) (x3 : ByteArray) (x4 : Int) (x5 : List D_api_Col) (ret : Int → Option β) : Option β := ((s0 x0 x1 (IntKind.wrap IntKind.i64 (x2 + (1 : Int))) x3 x4 x5).bind ret)
theorem schema_fits.c_bind {β : Type} {g52 : G_values_Check} {s0 : S_schema_fits_0} {s1 : S_schema_fits_1} {s2 : S_schema_fits_2} {a0 : ByteArray} {a1 : Int} {a2 : List D_api_Col} {a3 : List D_api_Value} {ret : Int → Option β} : schema_fits.c g52 s0 s1 s2 a0 a1 a2 a3 ret = (schema_fits.c g52 s0 s1 s2 a0 a1 a2 a3 some).bind ret := by
  simp only [schema_fits.c, bif_bind, sum_bind, Option.bind_assoc, Option.bind_some, Option.bind_none, Option.bind_fun_some]
theorem schema_fits.s0c_bind {β : Type} {g52 : G_values_Check} {s0 : S_schema_fits_0} {s1 : S_schema_fits_1} {s2 : S_schema_fits_2} {x0 : List D_api_Value} {x1 : Int} {x2 : Int} {x3 : ByteArray} {x4 : Int} {x5 : List D_api_Col} {ret : Int → Option β} : schema_fits.s0c g52 s0 s1 s2 x0 x1 x2 x3 x4 x5 ret = (schema_fits.s0c g52 s0 s1 s2 x0 x1 x2 x3 x4 x5 some).bind ret := by
  simp only [schema_fits.s0c, bif_bind, sum_bind, Option.bind_assoc, Option.bind_some, Option.bind_none, Option.bind_fun_some]
theorem schema_fits.s1c_bind {β : Type} {g52 : G_values_Check} {s0 : S_schema_fits_0} {s1 : S_schema_fits_1} {s2 : S_schema_fits_2} {x0 : List D_api_Value} {x1 : Int} {x2 : Int} {x3 : Bool} {x4 : ByteArray} {x5 : Int} {x6 : List D_api_Col} {ret : Int → Option β} : schema_fits.s1c g52 s0 s1 s2 x0 x1 x2 x3 x4 x5 x6 ret = (schema_fits.s1c g52 s0 s1 s2 x0 x1 x2 x3 x4 x5 x6 some).bind ret := by
  simp only [schema_fits.s1c, bif_bind, sum_bind, Option.bind_assoc, Option.bind_some, Option.bind_none, Option.bind_fun_some]
theorem schema_fits.s2c_bind {β : Type} {g52 : G_values_Check} {s0 : S_schema_fits_0} {s1 : S_schema_fits_1} {s2 : S_schema_fits_2} {x0 : List D_api_Value} {x1 : Int} {x2 : Int} {x3 : ByteArray} {x4 : Int} {x5 : List D_api_Col} {ret : Int → Option β} : schema_fits.s2c g52 s0 s1 s2 x0 x1 x2 x3 x4 x5 ret = (schema_fits.s2c g52 s0 s1 s2 x0 x1 x2 x3 x4 x5 some).bind ret := by
  simp only [schema_fits.s2c, bif_bind, sum_bind, Option.bind_assoc, Option.bind_some, Option.bind_none, Option.bind_fun_some]
theorem schema_fits.ev {g52 : G_values_Check} {s0 : S_schema_fits_0} {s1 : S_schema_fits_1} {s2 : S_schema_fits_2} {a0 : ByteArray} {a1 : Int} {a2 : List D_api_Col} {a3 : List D_api_Value} : evAt (env_schema_fits g52 s0 s1 s2) [] [0, 1] [.v (.agg [(.d .str a0), (.d (.int .i64) a1), (.d (.sl T_api_Col) a2)]), .v (.one (.d (.sl T_api_Value) a3))] [] some = schema_fits.c g52 s0 s1 s2 a0 a1 a2 a3 (fun r => some ⟨.v (.one (.d (.int .i64) r)), []⟩) := by
  kernel_rfl
theorem schema_fits.s0_ev {g52 : G_values_Check} {s0 : S_schema_fits_0} {s1 : S_schema_fits_1} {s2 : S_schema_fits_2} {x0 : List D_api_Value} {x1 : Int} {x2 : Int} {x3 : ByteArray} {x4 : Int} {x5 : List D_api_Col} : evAt (env_schema_fits g52 s0 s1 s2) [4, 1, 0, 1] [2, 9, 10, 11] [.v (.one (.ptr 0 0)), .v (.one (.d (.sl T_api_Value) x0)), .v (.one (.d (.int .i64) x1)), .v (.one (.d (.int .i64) x2))] [some (.box [(.d .str x3), (.d (.int .i64) x4), (.d (.sl T_api_Col) x5)])] some = schema_fits.s0c g52 s0 s1 s2 x0 x1 x2 x3 x4 x5 (fun r => some ⟨.v (.one (.d (.int .i64) r)), []⟩) := by
  kernel_rfl
theorem schema_fits.s1_ev {g52 : G_values_Check} {s0 : S_schema_fits_0} {s1 : S_schema_fits_1} {s2 : S_schema_fits_2} {x0 : List D_api_Value} {x1 : Int} {x2 : Int} {x3 : Bool} {x4 : ByteArray} {x5 : Int} {x6 : List D_api_Col} : evAt (env_schema_fits g52 s0 s1 s2) [1, 1, 1, 1, 4, 0, 1, 1, 5, 4, 1, 0, 1] [2, 9, 10, 11, 40] [.v (.one (.ptr 0 0)), .v (.one (.d (.sl T_api_Value) x0)), .v (.one (.d (.int .i64) x1)), .v (.one (.d (.int .i64) x2)), .v (.one (.d .bool x3))] [some (.box [(.d .str x4), (.d (.int .i64) x5), (.d (.sl T_api_Col) x6)])] some = schema_fits.s1c g52 s0 s1 s2 x0 x1 x2 x3 x4 x5 x6 (fun r => some ⟨.v (.one (.d (.int .i64) r)), []⟩) := by
  kernel_rfl
theorem schema_fits.s2_ev {g52 : G_values_Check} {s0 : S_schema_fits_0} {s1 : S_schema_fits_1} {s2 : S_schema_fits_2} {x0 : List D_api_Value} {x1 : Int} {x2 : Int} {x3 : ByteArray} {x4 : Int} {x5 : List D_api_Col} : evAt (env_schema_fits g52 s0 s1 s2) [1, 1, 1, 5, 4, 1, 0, 1] [2, 9, 10, 11] [.v (.one (.ptr 0 0)), .v (.one (.d (.sl T_api_Value) x0)), .v (.one (.d (.int .i64) x1)), .v (.one (.d (.int .i64) x2))] [some (.box [(.d .str x3), (.d (.int .i64) x4), (.d (.sl T_api_Col) x5)])] some = schema_fits.s2c g52 s0 s1 s2 x0 x1 x2 x3 x4 x5 (fun r => some ⟨.v (.one (.d (.int .i64) r)), []⟩) := by
  kernel_rfl
mutual
def schema_fits.s0 : Nat → (List D_api_Value) → Int → Int → ByteArray → Int → (List D_api_Col) → Option Int
  | 0, _, _, _, _, _, _ => none
  | k + 1, x0, x1, x2, x3, x4, x5 => schema_fits.s0c (values_Check.f k) (schema_fits.s0 k) (schema_fits.s1 k) (schema_fits.s2 k) x0 x1 x2 x3 x4 x5 some
def schema_fits.s1 : Nat → (List D_api_Value) → Int → Int → Bool → ByteArray → Int → (List D_api_Col) → Option Int
  | 0, _, _, _, _, _, _, _ => none
  | k + 1, x0, x1, x2, x3, x4, x5, x6 => schema_fits.s1c (values_Check.f k) (schema_fits.s0 k) (schema_fits.s1 k) (schema_fits.s2 k) x0 x1 x2 x3 x4 x5 x6 some
def schema_fits.s2 : Nat → (List D_api_Value) → Int → Int → ByteArray → Int → (List D_api_Col) → Option Int
  | 0, _, _, _, _, _, _ => none
  | k + 1, x0, x1, x2, x3, x4, x5 => schema_fits.s2c (values_Check.f k) (schema_fits.s0 k) (schema_fits.s1 k) (schema_fits.s2 k) x0 x1 x2 x3 x4 x5 some
end
def schema_fits.f (k : Nat) (a0 : ByteArray) (a1 : Int) (a2 : List D_api_Col) (a3 : List D_api_Value) : Option Int := schema_fits.c (values_Check.f k) (schema_fits.s0 k) (schema_fits.s1 k) (schema_fits.s2 k) a0 a1 a2 a3 some
theorem schema_fits.is {g52 : G_values_Check} {s0 : S_schema_fits_0} {s1 : S_schema_fits_1} {s2 : S_schema_fits_2} : FnIs (env_schema_fits g52 s0 s1 s2) 27 Go.Proofs.Tryz.f27 := ⟨Go.Proofs.Tryz.func27, rfl, rfl, rfl, by decide⟩
theorem schema_fits.envok {g52 : G_values_Check} {s0 : S_schema_fits_0} {s1 : S_schema_fits_1} {s2 : S_schema_fits_2} (h52 : CtOK Go.Proofs.Tryz.prog 52 (ct_values_Check g52)) : EnvOK (env_schema_fits g52 s0 s1 s2).toEnv := by
  intro f c h
  simp only [env_schema_fits] at h
  split at h
  · rename_i e; subst e; cases h; exact h52
  simp at h
noncomputable abbrev schema_fits.E (k : Nat) : FEnv := env_schema_fits (values_Check.f k) (schema_fits.s0 k) (schema_fits.s1 k) (schema_fits.s2 k)
theorem schema_fits.hE (k : Nat) : EnvOK (schema_fits.E k).toEnv := schema_fits.envok (values_Check.ok k)
theorem schema_fits.segs_ok : ∀ k, ∀ s ∈ (schema_fits.E k).segs, SegOK (schema_fits.E k) Go.Proofs.Tryz.f27 s
  | 0 => by
    intro s hs
    simp only [schema_fits.E, env_schema_fits, List.mem_cons, List.not_mem_nil, or_false] at hs
    rcases hs with rfl | rfl | rfl
    · intro tvs blks res h; exfalso; simp only [seg_schema_fits_0] at h; split at h <;> simp [schema_fits.s0] at h
    · intro tvs blks res h; exfalso; simp only [seg_schema_fits_1] at h; split at h <;> simp [schema_fits.s1] at h
    · intro tvs blks res h; exfalso; simp only [seg_schema_fits_2] at h; split at h <;> simp [schema_fits.s2] at h
  | k + 1 => by
    intro s hs
    simp only [schema_fits.E, env_schema_fits, List.mem_cons, List.not_mem_nil, or_false] at hs
    rcases hs with rfl | rfl | rfl
    · refine seg_of_ev (E := schema_fits.E k) (schema_fits.hE k) ⟨schema_fits.is.rvs⟩ (schema_fits.segs_ok k) ?_
      intro tvs blks res h
      simp only [seg_schema_fits_0] at h
      split at h
      · exact (schema_fits.s0_ev.trans schema_fits.s0c_bind).trans h
      · simp at h
    · refine seg_of_ev (E := schema_fits.E k) (schema_fits.hE k) ⟨schema_fits.is.rvs⟩ (schema_fits.segs_ok k) ?_
      intro tvs blks res h
      simp only [seg_schema_fits_1] at h
      split at h
      · exact (schema_fits.s1_ev.trans schema_fits.s1c_bind).trans h
      · simp at h
    · refine seg_of_ev (E := schema_fits.E k) (schema_fits.hE k) ⟨schema_fits.is.rvs⟩ (schema_fits.segs_ok k) ?_
      intro tvs blks res h
      simp only [seg_schema_fits_2] at h
      split at h
      · exact (schema_fits.s2_ev.trans schema_fits.s2c_bind).trans h
      · simp at h
theorem schema_fits.ok (k : Nat) : CtOK Go.Proofs.Tryz.prog 27 (ct_schema_fits (schema_fits.f k)) := by
  refine ct_of_ev (E := schema_fits.E k) schema_fits.is (schema_fits.hE k) (schema_fits.segs_ok k) rfl ?_
  intro tvs blks res h
  simp only [ct_schema_fits] at h
  split at h
  · exact (schema_fits.ev.trans schema_fits.c_bind).trans h
  · simp at h

/-! ### schema_Fits: function 10 -/
abbrev G_schema_Fits : Type := ByteArray → Int → (List D_api_Col) → (List D_api_Value) → Option Int
def ct_schema_Fits (g : G_schema_Fits) : Ct where
  nin := 0
  mv := []
  F := fun tvs blks {β} K => match tvs, blks with
    | [.v (.agg [(.d .str a0), (.d (.int .i64) a1), (.d (.sl (.pair .str (.pair (.int .i64) (.pair .bool (.pair (.pair (.int .i64) (.pair (.int .i64) (.pair (.int .u64) (.pair .str .unit)))) .unit))))) a2)]), .v (.one (.d (.sl (.pair (.int .i64) (.pair (.int .i64) (.pair (.int .u64) (.pair .str .unit))))) a3))], [] => (g a0 a1 a2 a3).bind fun r => K ⟨.v (.one (.d (.int .i64) r)), []⟩
    | _, _ => none
  legit := fun tvs blks K r h => by
    split at h
    · obtain ⟨x, hx, hk⟩ := Option.bind_eq_some_iff.1 h
      refine ⟨_, ?_, hk⟩
      simp only [hx, Option.bind_some]
    · simp at h
noncomputable def env_schema_Fits (g22 : G_schema_Check) (g27 : G_schema_fits)  : FEnv := { P := Go.Proofs.Tryz.prog, ct := fun m => if m = 22 then some (ct_schema_Check g22) else if m = 27 then some (ct_schema_fits g27) else none, N := 20, body := Go.Proofs.Tryz.f10.body.getD .skip, rvs := [.tmp 4], rts := [29], nin := 0, rmv := [], segs := [] }
def schema_Fits.c {β : Type} (g22 : G_schema_Check) (g27 : G_schema_fits)  (a0 : ByteArray) (a1 : Int) (a2 : List D_api_Col) (a3 : List D_api_Value) (ret : Int → Option β) : Option β := ((g22 a0 a1 a2).bind fun r0 => (bif (r0 != (0 : Int)) then (ret (r0)) else (bif (((List.length a3) : Int) != ((List.length a2) : Int)) then (ret ((11 : Int))) else ((g27 a0 a1 a2 a3).bind fun r1 => (ret (r1))))))
theorem schema_Fits.c_bind {β : Type} {g22 : G_schema_Check} {g27 : G_schema_fits}  {a0 : ByteArray} {a1 : Int} {a2 : List D_api_Col} {a3 : List D_api_Value} {ret : Int → Option β} : schema_Fits.c g22 g27  a0 a1 a2 a3 ret = (schema_Fits.c g22 g27  a0 a1 a2 a3 some).bind ret := by
  simp only [schema_Fits.c, bif_bind, sum_bind, Option.bind_assoc, Option.bind_some, Option.bind_none, Option.bind_fun_some]
theorem schema_Fits.ev {g22 : G_schema_Check} {g27 : G_schema_fits}  {a0 : ByteArray} {a1 : Int} {a2 : List D_api_Col} {a3 : List D_api_Value} : evAt (env_schema_Fits g22 g27 ) [] [0, 1] [.v (.agg [(.d .str a0), (.d (.int .i64) a1), (.d (.sl T_api_Col) a2)]), .v (.one (.d (.sl T_api_Value) a3))] [] some = schema_Fits.c g22 g27  a0 a1 a2 a3 (fun r => some ⟨.v (.one (.d (.int .i64) r)), []⟩) := by
  kernel_rfl
def schema_Fits.f (k : Nat) (a0 : ByteArray) (a1 : Int) (a2 : List D_api_Col) (a3 : List D_api_Value) : Option Int := schema_Fits.c (schema_Check.f k) (schema_fits.f k)  a0 a1 a2 a3 some
theorem schema_Fits.is {g22 : G_schema_Check} {g27 : G_schema_fits}  : FnIs (env_schema_Fits g22 g27 ) 10 Go.Proofs.Tryz.f10 := ⟨Go.Proofs.Tryz.func10, rfl, rfl, rfl, by decide⟩
theorem schema_Fits.envok {g22 : G_schema_Check} {g27 : G_schema_fits}  (h22 : CtOK Go.Proofs.Tryz.prog 22 (ct_schema_Check g22)) (h27 : CtOK Go.Proofs.Tryz.prog 27 (ct_schema_fits g27)) : EnvOK (env_schema_Fits g22 g27 ).toEnv := by
  intro f c h
  simp only [env_schema_Fits] at h
  split at h
  · rename_i e; subst e; cases h; exact h22
  split at h
  · rename_i e; subst e; cases h; exact h27
  simp at h
noncomputable abbrev schema_Fits.E (k : Nat) : FEnv := env_schema_Fits (schema_Check.f k) (schema_fits.f k) 
theorem schema_Fits.hE (k : Nat) : EnvOK (schema_Fits.E k).toEnv := schema_Fits.envok (schema_Check.ok k) (schema_fits.ok k)
theorem schema_Fits.ok (k : Nat) : CtOK Go.Proofs.Tryz.prog 10 (ct_schema_Fits (schema_Fits.f k)) := by
  refine ct_of_ev (E := schema_Fits.E k) schema_Fits.is (schema_Fits.hE k) (fun s hs => by simp [schema_Fits.E, env_schema_Fits] at hs) rfl ?_
  intro tvs blks res h
  simp only [ct_schema_Fits] at h
  split at h
  · exact (schema_Fits.ev.trans schema_Fits.c_bind).trans h
  · simp at h
end Go.Proofs.YtddlebbjaadbeaaGreatDoor.Aev
