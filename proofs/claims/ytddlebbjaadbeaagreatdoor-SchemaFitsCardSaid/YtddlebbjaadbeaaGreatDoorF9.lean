/- By a program of this session (AEV): functions of the program as plain functions, and that the machine does what they say. -/
import Derived.Test.YtddlebbjaadbeaaGreatDoorTys
import Derived.Test.YtddlebbjaadbeaaGreatDoorProg
import Derived.Laws.Externs
import Derived.Lib.Bytealg
import Derived.Test.YtddlebbjaadbeaaGreatDoorF0
import Derived.Test.YtddlebbjaadbeaaGreatDoorF1
import Derived.Test.YtddlebbjaadbeaaGreatDoorF2
import Derived.Test.YtddlebbjaadbeaaGreatDoorF4
import Derived.Test.YtddlebbjaadbeaaGreatDoorF7
import Derived.Test.YtddlebbjaadbeaaGreatDoorF8
namespace Go.Proofs.YtddlebbjaadbeaaGreatDoor.Aev
set_option linter.unusedVariables false
set_option linter.unusedSimpArgs false
set_option maxRecDepth 100000
set_option maxHeartbeats 4000000
open Go
/-! ### schema_Read: function 16 -/
abbrev G_schema_Read : Type := ByteArray → Option (ByteArray × Int × (List D_api_Col) × ByteArray × Int)
def ct_schema_Read (g : G_schema_Read) : Ct where
  nin := 0
  mv := []
  F := fun tvs blks {β} K => match tvs, blks with
    | [.v (.one (.d .str a0))], [] => (g a0).bind fun r => K ⟨.tup [(.agg [(.d .str r.1), (.d (.int .i64) r.2.1), (.d (.sl T_api_Col) r.2.2.1)]), (.one (.d .str r.2.2.2.1)), (.one (.d (.int .i64) r.2.2.2.2))], []⟩
    | _, _ => none
  legit := fun tvs blks K r h => by
    split at h
    · obtain ⟨x, hx, hk⟩ := Option.bind_eq_some_iff.1 h
      refine ⟨_, ?_, hk⟩
      simp only [hx, Option.bind_some]
    · simp at h
abbrev S_schema_Read_0 : Type := Int → Int → ByteArray → Int → ByteArray → Int → ByteArray → Int → (List D_api_Col) → Option (ByteArray × Int × (List D_api_Col) × ByteArray × Int)
abbrev S_schema_Read_1 : Type := ByteArray → Int → ByteArray → Int → ByteArray → Int → (List D_api_Col) → Option (ByteArray × Int × (List D_api_Col) × ByteArray × Int)
def seg_schema_Read_0 (g : S_schema_Read_0) : Seg where
  path := [4, 1, 0, 1, 1, 1, 1, 1]
  prep := [.cellOwn 6 2 T_api_Col]
  keep := [2, 5, 6, 18, 19]
  F := fun tvs blks {β} K => match tvs, blks with
    | [.v (.one (.ptr 0 0)), .v (.one (.ptr 1 0)), .v (.one (.ptr 2 0)), .v (.one (.d (.int .i64) x0)), .v (.one (.d (.int .i64) x1))], [some (.box [(.d .str x2), (.d (.int .i64) x3), (.raw (.slice none 0 0))]), some (.box [(.d .str x4), (.d (.int .i64) x5)]), some (.box [(.d .str x6), (.d (.int .i64) x7), (.own 3)]), some (.own (.pair .str (.pair (.int .i64) (.pair .bool (.pair (.pair (.int .i64) (.pair (.int .i64) (.pair (.int .u64) (.pair .str .unit)))) .unit)))) false x8)] => (g x0 x1 x2 x3 x4 x5 x6 x7 x8).bind fun r => K ⟨.tup [(.agg [(.d .str r.1), (.d (.int .i64) r.2.1), (.d (.sl T_api_Col) r.2.2.1)]), (.one (.d .str r.2.2.2.1)), (.one (.d (.int .i64) r.2.2.2.2))], []⟩
    | _, _ => none
  legit := fun tvs blks K r h => by
    split at h
    · obtain ⟨x, hx, hk⟩ := Option.bind_eq_some_iff.1 h
      refine ⟨_, ?_, hk⟩
      simp only [hx, Option.bind_some]
    · simp at h
def seg_schema_Read_1 (g : S_schema_Read_1) : Seg where
  path := [1, 1, 1, 1, 1, 1, 1]
  prep := []
  keep := [2, 5, 6]
  F := fun tvs blks {β} K => match tvs, blks with
    | [.v (.one (.ptr 0 0)), .v (.one (.ptr 1 0)), .v (.one (.ptr 2 0))], [some (.box [(.d .str x0), (.d (.int .i64) x1), (.raw (.slice none 0 0))]), some (.box [(.d .str x2), (.d (.int .i64) x3)]), some (.box [(.d .str x4), (.d (.int .i64) x5), (.own 3)]), some (.own (.pair .str (.pair (.int .i64) (.pair .bool (.pair (.pair (.int .i64) (.pair (.int .i64) (.pair (.int .u64) (.pair .str .unit)))) .unit)))) false x6)] => (g x0 x1 x2 x3 x4 x5 x6).bind fun r => K ⟨.tup [(.agg [(.d .str r.1), (.d (.int .i64) r.2.1), (.d (.sl T_api_Col) r.2.2.1)]), (.one (.d .str r.2.2.2.1)), (.one (.d (.int .i64) r.2.2.2.2))], []⟩
    | _, _ => none
  legit := fun tvs blks K r h => by
    split at h
    · obtain ⟨x, hx, hk⟩ := Option.bind_eq_some_iff.1 h
      refine ⟨_, ?_, hk⟩
      simp only [hx, Option.bind_some]
    · simp at h
noncomputable def env_schema_Read (g22 : G_schema_Check) (g36 : G_schema_reader_text) (g37 : G_schema_reader_uint) (g38 : G_schema_reader_flag) (g39 : G_schema_reader_value) (g40 : G_schema_reader_fail) (s0 : S_schema_Read_0) (s1 : S_schema_Read_1) : FEnv := { P := Go.Proofs.Tryz.prog, ct := fun m => if m = 22 then some (ct_schema_Check g22) else if m = 36 then some (ct_schema_reader_text g36) else if m = 37 then some (ct_schema_reader_uint g37) else if m = 38 then some (ct_schema_reader_flag g38) else if m = 39 then some (ct_schema_reader_value g39) else if m = 40 then some (ct_schema_reader_fail g40) else none, N := 64, body := Go.Proofs.Tryz.f16.body.getD .skip, rvs := [.cell 2 24, .tmp 3, .tmp 4], rts := [24, 9, 29], nin := 0, rmv := [], segs := [seg_schema_Read_0 s0, seg_schema_Read_1 s1] }
def schema_Read.c {β : Type} (g22 : G_schema_Check) (g36 : G_schema_reader_text) (g37 : G_schema_reader_uint) (g38 : G_schema_reader_flag) (g39 : G_schema_reader_value) (g40 : G_schema_reader_fail) (s0 : S_schema_Read_0) (s1 : S_schema_Read_1) (a0 : ByteArray) (ret : (ByteArray × Int × (List D_api_Col) × ByteArray × Int) → Option β) : Option β := ((g36 a0 (0 : Int)).bind fun r0 => ((g37 (100 : Int) (1 : Int) r0.2.1 r0.2.2).bind fun r1 => ((g37 (8 : Int) (2 : Int) r1.2.1 r1.2.2).bind fun r2 => ((s0 r2.1 (0 : Int) (ByteArray.mk (List.toArray [])) (0 : Int) r2.2.1 r2.2.2 r0.1 r1.1 []).bind ret))))
def schema_Read.s0c {β : Type} (g22 : G_schema_Check) (g36 : G_schema_reader_text) (g37 : G_schema_reader_uint) (g38 : G_schema_reader_flag) (g39 : G_schema_reader_value) (g40 : G_schema_reader_fail) (s0 : S_schema_Read_0) (s1 : S_schema_Read_1) (x0 : Int) (x1 : Int) (x2 : ByteArray) (x3 : Int) (x4 : ByteArray) (x5 : Int) (x6 : ByteArray) (x7 : Int) (x8 : List D_api_Col) (ret : (ByteArray × Int × (List D_api_Col) × ByteArray × Int) → Option β) : Option β := (bif (decide (x1 < x0)) then ((g36 x4 x5).bind fun r0 => ((g37 (100 : Int) (1 : Int) r0.2.1 r0.2.2).bind fun r1 => ((g38 r1.2.1 r1.2.2).bind fun r2 => ((g39 r2.2.1 r2.2.2).bind fun r3 => (bif (decide ((((List.length x8) + (1 : Nat)) * (72 : Nat)) ≤ (35184372088832 : Nat))) then ((s0 x0 (IntKind.wrap IntKind.i64 (x1 + (1 : Int))) x2 x3 r3.2.2.2.2.1 r3.2.2.2.2.2 x6 x7 (x8 ++ [(r0.1, (r1.1, (r2.1, ((r3.1, (r3.2.1, (r3.2.2.1, (r3.2.2.2.1, ())))), ()))))])).bind ret) else none))))) else (bif (x5 == (0 : Int)) then ((g22 x6 x7 x8).bind fun r4 => ((g40 r4 x4 x5).bind fun r5 => ((s1 x2 x3 r5.1 r5.2 x6 x7 x8).bind ret))) else ((s1 x2 x3 x4 x5 x6 x7 x8).bind ret)))
def schema_Read.s1c {β : Type} (g22 : G_schema_Check) (g36 : G_schema_reader_text) (g37 : G_schema_reader_uint) (g38 : G_schema_reader_flag) (g39 : G_schema_reader_value) (g40 : G_schema_reader_fail) (s0 : S_schema_Read_0) (s1 : S_schema_Read_1) (x0 : ByteArray) (x1 : Int) (x2 : ByteArray) (x3 : Int) (x4 : ByteArray) (x5 : Int) (x6 : List D_api_Col) (ret : (ByteArray × Int × (List D_api_Col) × ByteArray × Int) → Option β) : Option β := (bif (x3 != (0 : Int)) then (ret ((ByteArray.mk (List.toArray [])), (0 : Int), [], (ByteArray.mk (List.toArray [])), x3)) else (ret (x4, x5, x6, x2, (0 : Int))))
theorem schema_Read.c_bind {β : Type} {g22 : G_schema_Check} {g36 : G_schema_reader_text} {g37 : G_schema_reader_uint} {g38 : G_schema_reader_flag} {g39 : G_schema_reader_value} {g40 : G_schema_reader_fail} {s0 : S_schema_Read_0} {s1 : S_schema_Read_1} {a0 : ByteArray} {ret : (ByteArray × Int × (List D_api_Col) × ByteArray × Int) → Option β} : schema_Read.c g22 g36 g37 g38 g39 g40 s0 s1 a0 ret = (schema_Read.c g22 g36 g37 g38 g39 g40 s0 s1 a0 some).bind ret := by
  simp only [schema_Read.c, bif_bind, sum_bind, Option.bind_assoc, Option.bind_some, Option.bind_none, Option.bind_fun_some]
theorem schema_Read.s0c_bind {β : Type} {g22 : G_schema_Check} {g36 : G_schema_reader_text} {g37 : G_schema_reader_uint} {g38 : G_schema_reader_flag} {g39 : G_schema_reader_value} {g40 : G_schema_reader_fail} {s0 : S_schema_Read_0} {s1 : S_schema_Read_1} {x0 : Int} {x1 : Int} {x2 : ByteArray} {x3 : Int} {x4 : ByteArray} {x5 : Int} {x6 : ByteArray} {x7 : Int} {x8 : List D_api_Col} {ret : (ByteArray × Int × (List D_api_Col) × ByteArray × Int) → Option β} : schema_Read.s0c g22 g36 g37 g38 g39 g40 s0 s1 x0 x1 x2 x3 x4 x5 x6 x7 x8 ret = (schema_Read.s0c g22 g36 g37 g38 g39 g40 s0 s1 x0 x1 x2 x3 x4 x5 x6 x7 x8 some).bind ret := by
  simp only [schema_Read.s0c, bif_bind, sum_bind, Option.bind_assoc, Option.bind_some, Option.bind_none, Option.bind_fun_some]
theorem schema_Read.s1c_bind {β : Type} {g22 : G_schema_Check} {g36 : G_schema_reader_text} {g37 : G_schema_reader_uint} {g38 : G_schema_reader_flag} {g39 : G_schema_reader_value} {g40 : G_schema_reader_fail} {s0 : S_schema_Read_0} {s1 : S_schema_Read_1} {x0 : ByteArray} {x1 : Int} {x2 : ByteArray} {x3 : Int} {x4 : ByteArray} {x5 : Int} {x6 : List D_api_Col} {ret : (ByteArray × Int × (List D_api_Col) × ByteArray × Int) → Option β} : schema_Read.s1c g22 g36 g37 g38 g39 g40 s0 s1 x0 x1 x2 x3 x4 x5 x6 ret = (schema_Read.s1c g22 g36 g37 g38 g39 g40 s0 s1 x0 x1 x2 x3 x4 x5 x6 some).bind ret := by
  simp only [schema_Read.s1c, bif_bind, sum_bind, Option.bind_assoc, Option.bind_some, Option.bind_none, Option.bind_fun_some]
theorem schema_Read.ev {g22 : G_schema_Check} {g36 : G_schema_reader_text} {g37 : G_schema_reader_uint} {g38 : G_schema_reader_flag} {g39 : G_schema_reader_value} {g40 : G_schema_reader_fail} {s0 : S_schema_Read_0} {s1 : S_schema_Read_1} {a0 : ByteArray} : evAt (env_schema_Read g22 g36 g37 g38 g39 g40 s0 s1) [] [0] [.v (.one (.d .str a0))] [] some = schema_Read.c g22 g36 g37 g38 g39 g40 s0 s1 a0 (fun r => some ⟨.tup [(.agg [(.d .str r.1), (.d (.int .i64) r.2.1), (.d (.sl T_api_Col) r.2.2.1)]), (.one (.d .str r.2.2.2.1)), (.one (.d (.int .i64) r.2.2.2.2))], []⟩) := by
  kernel_rfl
theorem schema_Read.s0_ev {g22 : G_schema_Check} {g36 : G_schema_reader_text} {g37 : G_schema_reader_uint} {g38 : G_schema_reader_flag} {g39 : G_schema_reader_value} {g40 : G_schema_reader_fail} {s0 : S_schema_Read_0} {s1 : S_schema_Read_1} {x0 : Int} {x1 : Int} {x2 : ByteArray} {x3 : Int} {x4 : ByteArray} {x5 : Int} {x6 : ByteArray} {x7 : Int} {x8 : List D_api_Col} : evAt (env_schema_Read g22 g36 g37 g38 g39 g40 s0 s1) [4, 1, 0, 1, 1, 1, 1, 1] [2, 5, 6, 18, 19] [.v (.one (.ptr 0 0)), .v (.one (.ptr 1 0)), .v (.one (.ptr 2 0)), .v (.one (.d (.int .i64) x0)), .v (.one (.d (.int .i64) x1))] [some (.box [(.d .str x2), (.d (.int .i64) x3), (.raw (.slice none 0 0))]), some (.box [(.d .str x4), (.d (.int .i64) x5)]), some (.box [(.d .str x6), (.d (.int .i64) x7), (.own 3)]), some (.own T_api_Col false x8)] some = schema_Read.s0c g22 g36 g37 g38 g39 g40 s0 s1 x0 x1 x2 x3 x4 x5 x6 x7 x8 (fun r => some ⟨.tup [(.agg [(.d .str r.1), (.d (.int .i64) r.2.1), (.d (.sl T_api_Col) r.2.2.1)]), (.one (.d .str r.2.2.2.1)), (.one (.d (.int .i64) r.2.2.2.2))], []⟩) := by
  kernel_rfl
theorem schema_Read.s1_ev {g22 : G_schema_Check} {g36 : G_schema_reader_text} {g37 : G_schema_reader_uint} {g38 : G_schema_reader_flag} {g39 : G_schema_reader_value} {g40 : G_schema_reader_fail} {s0 : S_schema_Read_0} {s1 : S_schema_Read_1} {x0 : ByteArray} {x1 : Int} {x2 : ByteArray} {x3 : Int} {x4 : ByteArray} {x5 : Int} {x6 : List D_api_Col} : evAt (env_schema_Read g22 g36 g37 g38 g39 g40 s0 s1) [1, 1, 1, 1, 1, 1, 1] [2, 5, 6] [.v (.one (.ptr 0 0)), .v (.one (.ptr 1 0)), .v (.one (.ptr 2 0))] [some (.box [(.d .str x0), (.d (.int .i64) x1), (.raw (.slice none 0 0))]), some (.box [(.d .str x2), (.d (.int .i64) x3)]), some (.box [(.d .str x4), (.d (.int .i64) x5), (.own 3)]), some (.own T_api_Col false x6)] some = schema_Read.s1c g22 g36 g37 g38 g39 g40 s0 s1 x0 x1 x2 x3 x4 x5 x6 (fun r => some ⟨.tup [(.agg [(.d .str r.1), (.d (.int .i64) r.2.1), (.d (.sl T_api_Col) r.2.2.1)]), (.one (.d .str r.2.2.2.1)), (.one (.d (.int .i64) r.2.2.2.2))], []⟩) := by
  kernel_rfl
mutual
def schema_Read.s0 : Nat → Int → Int → ByteArray → Int → ByteArray → Int → ByteArray → Int → (List D_api_Col) → Option (ByteArray × Int × (List D_api_Col) × ByteArray × Int)
  | 0, _, _, _, _, _, _, _, _, _ => none
  | k + 1, x0, x1, x2, x3, x4, x5, x6, x7, x8 => schema_Read.s0c (schema_Check.f k) (schema_reader_text.f k) (schema_reader_uint.f k) (schema_reader_flag.f k) (schema_reader_value.f k) (schema_reader_fail.f k) (schema_Read.s0 k) (schema_Read.s1 k) x0 x1 x2 x3 x4 x5 x6 x7 x8 some
def schema_Read.s1 : Nat → ByteArray → Int → ByteArray → Int → ByteArray → Int → (List D_api_Col) → Option (ByteArray × Int × (List D_api_Col) × ByteArray × Int)
  | 0, _, _, _, _, _, _, _ => none
  | k + 1, x0, x1, x2, x3, x4, x5, x6 => schema_Read.s1c (schema_Check.f k) (schema_reader_text.f k) (schema_reader_uint.f k) (schema_reader_flag.f k) (schema_reader_value.f k) (schema_reader_fail.f k) (schema_Read.s0 k) (schema_Read.s1 k) x0 x1 x2 x3 x4 x5 x6 some
end
def schema_Read.f (k : Nat) (a0 : ByteArray) : Option (ByteArray × Int × (List D_api_Col) × ByteArray × Int) := schema_Read.c (schema_Check.f k) (schema_reader_text.f k) (schema_reader_uint.f k) (schema_reader_flag.f k) (schema_reader_value.f k) (schema_reader_fail.f k) (schema_Read.s0 k) (schema_Read.s1 k) a0 some
theorem schema_Read.is {g22 : G_schema_Check} {g36 : G_schema_reader_text} {g37 : G_schema_reader_uint} {g38 : G_schema_reader_flag} {g39 : G_schema_reader_value} {g40 : G_schema_reader_fail} {s0 : S_schema_Read_0} {s1 : S_schema_Read_1} : FnIs (env_schema_Read g22 g36 g37 g38 g39 g40 s0 s1) 16 Go.Proofs.Tryz.f16 := ⟨Go.Proofs.Tryz.func16, rfl, rfl, rfl, by decide⟩
theorem schema_Read.envok {g22 : G_schema_Check} {g36 : G_schema_reader_text} {g37 : G_schema_reader_uint} {g38 : G_schema_reader_flag} {g39 : G_schema_reader_value} {g40 : G_schema_reader_fail} {s0 : S_schema_Read_0} {s1 : S_schema_Read_1} (h22 : CtOK Go.Proofs.Tryz.prog 22 (ct_schema_Check g22)) (h36 : CtOK Go.Proofs.Tryz.prog 36 (ct_schema_reader_text g36)) (h37 : CtOK Go.Proofs.Tryz.prog 37 (ct_schema_reader_uint g37)) (h38 : CtOK Go.Proofs.Tryz.prog 38 (ct_schema_reader_flag g38)) (h39 : CtOK Go.Proofs.Tryz.prog 39 (ct_schema_reader_value g39)) (h40 : CtOK Go.Proofs.Tryz.prog 40 (ct_schema_reader_fail g40)) : EnvOK (env_schema_Read g22 g36 g37 g38 g39 g40 s0 s1).toEnv := by
  intro f c h
  simp only [env_schema_Read] at h
  split at h
  · rename_i e; subst e; cases h; exact h22
  split at h
  · rename_i e; subst e; cases h; exact h36
  split at h
  · rename_i e; subst e; cases h; exact h37
  split at h
  · rename_i e; subst e; cases h; exact h38
  split at h
  · rename_i e; subst e; cases h; exact h39
  split at h
  · rename_i e; subst e; cases h; exact h40
  simp at h
noncomputable abbrev schema_Read.E (k : Nat) : FEnv := env_schema_Read (schema_Check.f k) (schema_reader_text.f k) (schema_reader_uint.f k) (schema_reader_flag.f k) (schema_reader_value.f k) (schema_reader_fail.f k) (schema_Read.s0 k) (schema_Read.s1 k)
theorem schema_Read.hE (k : Nat) : EnvOK (schema_Read.E k).toEnv := schema_Read.envok (schema_Check.ok k) (schema_reader_text.ok k) (schema_reader_uint.ok k) (schema_reader_flag.ok k) (schema_reader_value.ok k) (schema_reader_fail.ok k)
theorem schema_Read.segs_ok : ∀ k, ∀ s ∈ (schema_Read.E k).segs, SegOK (schema_Read.E k) Go.Proofs.Tryz.f16 s
  | 0 => by
    intro s hs
    simp only [schema_Read.E, env_schema_Read, List.mem_cons, List.not_mem_nil, or_false] at hs
    rcases hs with rfl | rfl
    · intro tvs blks res h; exfalso; simp only [seg_schema_Read_0] at h; split at h <;> simp [schema_Read.s0] at h
    · intro tvs blks res h; exfalso; simp only [seg_schema_Read_1] at h; split at h <;> simp [schema_Read.s1] at h
  | k + 1 => by
    intro s hs
    simp only [schema_Read.E, env_schema_Read, List.mem_cons, List.not_mem_nil, or_false] at hs
    rcases hs with rfl | rfl
    · refine seg_of_ev (E := schema_Read.E k) (schema_Read.hE k) ⟨schema_Read.is.rvs⟩ (schema_Read.segs_ok k) ?_
      intro tvs blks res h
      simp only [seg_schema_Read_0] at h
      split at h
      · exact (schema_Read.s0_ev.trans schema_Read.s0c_bind).trans h
      · simp at h
    · refine seg_of_ev (E := schema_Read.E k) (schema_Read.hE k) ⟨schema_Read.is.rvs⟩ (schema_Read.segs_ok k) ?_
      intro tvs blks res h
      simp only [seg_schema_Read_1] at h
      split at h
      · exact (schema_Read.s1_ev.trans schema_Read.s1c_bind).trans h
      · simp at h
theorem schema_Read.ok (k : Nat) : CtOK Go.Proofs.Tryz.prog 16 (ct_schema_Read (schema_Read.f k)) := by
  refine ct_of_ev (E := schema_Read.E k) schema_Read.is (schema_Read.hE k) (schema_Read.segs_ok k) rfl ?_
  intro tvs blks res h
  simp only [ct_schema_Read] at h
  split at h
  · exact (schema_Read.ev.trans schema_Read.c_bind).trans h
  · simp at h

/-! ### transomlaw09_Plain: function 20 -/
abbrev G_transomlaw09_Plain : Type := Option (ByteArray × Int × (List D_api_Col))
def ct_transomlaw09_Plain (g : G_transomlaw09_Plain) : Ct where
  nin := 0
  mv := []
  F := fun tvs blks {β} K => match tvs, blks with
    | [], [] => (g ).bind fun r => K ⟨.v (.agg [(.d .str r.1), (.d (.int .i64) r.2.1), (.own 0)]), [some (.own T_api_Col true r.2.2)]⟩
    | _, _ => none
  legit := fun tvs blks K r h => by
    split at h
    · obtain ⟨x, hx, hk⟩ := Option.bind_eq_some_iff.1 h
      refine ⟨_, ?_, hk⟩
      simp only [hx, Option.bind_some]
    · simp at h
noncomputable def env_transomlaw09_Plain   : FEnv := { P := Go.Proofs.Tryz.prog, ct := fun m => none, N := 5, body := Go.Proofs.Tryz.f20.body.getD .skip, rvs := [.cell 0 24], rts := [24], nin := 0, rmv := [0], segs := [] }
def transomlaw09_Plain.c {β : Type}    (ret : (ByteArray × Int × (List D_api_Col)) → Option β) : Option β := (ret ((ByteArray.mk (List.toArray [(116 : UInt8)])), (1 : Int), [((ByteArray.mk (List.toArray [(107 : UInt8)])), ((2 : Int), (false, (((0 : Int), ((0 : Int), ((0 : Int), ((ByteArray.mk (List.toArray [])), ())))), ())))), ((ByteArray.mk (List.toArray [(118 : UInt8)])), ((5 : Int), (true, (((0 : Int), ((0 : Int), ((0 : Int), ((ByteArray.mk (List.toArray [])), ())))), ()))))]))
theorem transomlaw09_Plain.c_bind {β : Type}    {ret : (ByteArray × Int × (List D_api_Col)) → Option β} : transomlaw09_Plain.c    ret = (transomlaw09_Plain.c    some).bind ret := by
  simp only [transomlaw09_Plain.c, bif_bind, sum_bind, Option.bind_assoc, Option.bind_some, Option.bind_none, Option.bind_fun_some]
theorem transomlaw09_Plain.ev    : evAt (env_transomlaw09_Plain  ) [] [] [] [] some = transomlaw09_Plain.c    (fun r => some ⟨.v (.agg [(.d .str r.1), (.d (.int .i64) r.2.1), (.own 0)]), [some (.own T_api_Col true r.2.2)]⟩) := by
  kernel_rfl
def transomlaw09_Plain.f (k : Nat)  : Option (ByteArray × Int × (List D_api_Col)) := transomlaw09_Plain.c    some
theorem transomlaw09_Plain.is   : FnIs (env_transomlaw09_Plain  ) 20 Go.Proofs.Tryz.f20 := ⟨Go.Proofs.Tryz.func20, rfl, rfl, rfl, by decide⟩
theorem transomlaw09_Plain.envok    : EnvOK (env_transomlaw09_Plain  ).toEnv := by
  intro f c h
  simp only [env_transomlaw09_Plain] at h
  simp at h
noncomputable abbrev transomlaw09_Plain.E (k : Nat) : FEnv := env_transomlaw09_Plain  
theorem transomlaw09_Plain.hE (k : Nat) : EnvOK (transomlaw09_Plain.E k).toEnv := transomlaw09_Plain.envok 
theorem transomlaw09_Plain.ok (k : Nat) : CtOK Go.Proofs.Tryz.prog 20 (ct_transomlaw09_Plain (transomlaw09_Plain.f k)) := by
  refine ct_of_ev (E := transomlaw09_Plain.E k) transomlaw09_Plain.is (transomlaw09_Plain.hE k) (fun s hs => by simp [transomlaw09_Plain.E, env_transomlaw09_Plain] at hs) rfl ?_
  intro tvs blks res h
  simp only [ct_transomlaw09_Plain] at h
  split at h
  · exact (transomlaw09_Plain.ev.trans transomlaw09_Plain.c_bind).trans h
  · simp at h

/-! ### api_Col_46: function 46 -/
abbrev G_api_Col_46 : Type := (List D_api_Col) → (List D_api_Col) → Option Bool
def ct_api_Col_46 (g : G_api_Col_46) : Ct where
  nin := 0
  mv := []
  F := fun tvs blks {β} K => match tvs, blks with
    | [.v (.one (.d (.sl (.pair .str (.pair (.int .i64) (.pair .bool (.pair (.pair (.int .i64) (.pair (.int .i64) (.pair (.int .u64) (.pair .str .unit)))) .unit))))) a0)), .v (.one (.d (.sl (.pair .str (.pair (.int .i64) (.pair .bool (.pair (.pair (.int .i64) (.pair (.int .i64) (.pair (.int .u64) (.pair .str .unit)))) .unit))))) a1))], [] => (g a0 a1).bind fun r => K ⟨.v (.one (.d .bool r)), []⟩
    | _, _ => none
  legit := fun tvs blks K r h => by
    split at h
    · obtain ⟨x, hx, hk⟩ := Option.bind_eq_some_iff.1 h
      refine ⟨_, ?_, hk⟩
      simp only [hx, Option.bind_some]
    · simp at h
abbrev S_api_Col_46_0 : Type := (List D_api_Col) → (List D_api_Col) → Int → Int → Option Bool
def seg_api_Col_46_0 (g : S_api_Col_46_0) : Seg where
  path := [4, 1, 0, 1, 1]
  prep := []
  keep := [0, 1, 12, 13]
  F := fun tvs blks {β} K => match tvs, blks with
    | [.v (.one (.d (.sl (.pair .str (.pair (.int .i64) (.pair .bool (.pair (.pair (.int .i64) (.pair (.int .i64) (.pair (.int .u64) (.pair .str .unit)))) .unit))))) x0)), .v (.one (.d (.sl (.pair .str (.pair (.int .i64) (.pair .bool (.pair (.pair (.int .i64) (.pair (.int .i64) (.pair (.int .u64) (.pair .str .unit)))) .unit))))) x1)), .v (.one (.d (.int .i64) x2)), .v (.one (.d (.int .i64) x3))], [] => (g x0 x1 x2 x3).bind fun r => K ⟨.v (.one (.d .bool r)), []⟩
    | _, _ => none
  legit := fun tvs blks K r h => by
    split at h
    · obtain ⟨x, hx, hk⟩ := Option.bind_eq_some_iff.1 h
      refine ⟨_, ?_, hk⟩
      simp only [hx, Option.bind_some]
    · simp at h
noncomputable def env_api_Col_46  (s0 : S_api_Col_46_0) : FEnv := { P := Go.Proofs.Tryz.prog, ct := fun m => none, N := 26, body := Go.Proofs.Tryz.f46.body.getD .skip, rvs := [.tmp 4], rts := [4], nin := 0, rmv := [], segs := [seg_api_Col_46_0 s0] }
def api_Col_46.c {β : Type}  (s0 : S_api_Col_46_0) (a0 : List D_api_Col) (a1 : List D_api_Col) (ret : Bool → Option β) : Option β := (bif (((List.length a0) : Int) != ((List.length a1) : Int)) then (ret (false)) else ((s0 a0 a1 ((List.length a0) : Int) (0 : Int)).bind ret))
def api_Col_46.s0c {β : Type}  (s0 : S_api_Col_46_0) (x0 : List D_api_Col) (x1 : List D_api_Col) (x2 : Int) (x3 : Int) (ret : Bool → Option β) : Option β := (bif (decide (x3 < x2)) then (bif ((decide ((0 : Int) ≤ x3)) && (decide (x3 < ((List.length x0) : Int)))) then (bif ((decide ((0 : Int) ≤ x3)) && (decide (x3 < ((List.length x1) : Int)))) then (bif (!(((ByteArray.toList (elem T_api_Col x0 x3).1) == (ByteArray.toList (elem T_api_Col x1 x3).1)) && (((elem T_api_Col x0 x3).2.1 == (elem T_api_Col x1 x3).2.1) && (((elem T_api_Col x0 x3).2.2.1 == (elem T_api_Col x1 x3).2.2.1) && ((((elem T_api_Col x0 x3).2.2.2.1.1 == (elem T_api_Col x1 x3).2.2.2.1.1) && (((elem T_api_Col x0 x3).2.2.2.1.2.1 == (elem T_api_Col x1 x3).2.2.2.1.2.1) && (((elem T_api_Col x0 x3).2.2.2.1.2.2.1 == (elem T_api_Col x1 x3).2.2.2.1.2.2.1) && (((ByteArray.toList (elem T_api_Col x0 x3).2.2.2.1.2.2.2.1) == (ByteArray.toList (elem T_api_Col x1 x3).2.2.2.1.2.2.2.1)) && true)))) && true))))) then (ret (false)) else ((s0 x0 x1 x2 (IntKind.wrap IntKind.i64 (x3 + (1 : Int)))).bind ret)) else none) else none) else (ret (true)))
theorem api_Col_46.c_bind {β : Type}  {s0 : S_api_Col_46_0} {a0 : List D_api_Col} {a1 : List D_api_Col} {ret : Bool → Option β} : api_Col_46.c  s0 a0 a1 ret = (api_Col_46.c  s0 a0 a1 some).bind ret := by
  simp only [api_Col_46.c, bif_bind, sum_bind, Option.bind_assoc, Option.bind_some, Option.bind_none, Option.bind_fun_some]
theorem api_Col_46.s0c_bind {β : Type}  {s0 : S_api_Col_46_0} {x0 : List D_api_Col} {x1 : List D_api_Col} {x2 : Int} {x3 : Int} {ret : Bool → Option β} : api_Col_46.s0c  s0 x0 x1 x2 x3 ret = (api_Col_46.s0c  s0 x0 x1 x2 x3 some).bind ret := by
  simp only [api_Col_46.s0c, bif_bind, sum_bind, Option.bind_assoc, Option.bind_some, Option.bind_none, Option.bind_fun_some]
theorem api_Col_46.ev  {s0 : S_api_Col_46_0} {a0 : List D_api_Col} {a1 : List D_api_Col} : evAt (env_api_Col_46  s0) [] [0, 1] [.v (.one (.d (.sl T_api_Col) a0)), .v (.one (.d (.sl T_api_Col) a1))] [] some = api_Col_46.c  s0 a0 a1 (fun r => some ⟨.v (.one (.d .bool r)), []⟩) := by
  kernel_rfl
theorem api_Col_46.s0_ev  {s0 : S_api_Col_46_0} {x0 : List D_api_Col} {x1 : List D_api_Col} {x2 : Int} {x3 : Int} : evAt (env_api_Col_46  s0) [4, 1, 0, 1, 1] [0, 1, 12, 13] [.v (.one (.d (.sl T_api_Col) x0)), .v (.one (.d (.sl T_api_Col) x1)), .v (.one (.d (.int .i64) x2)), .v (.one (.d (.int .i64) x3))] [] some = api_Col_46.s0c  s0 x0 x1 x2 x3 (fun r => some ⟨.v (.one (.d .bool r)), []⟩) := by
  kernel_rfl
def api_Col_46.s0 : Nat → (List D_api_Col) → (List D_api_Col) → Int → Int → Option Bool
  | 0, _, _, _, _ => none
  | k + 1, x0, x1, x2, x3 => api_Col_46.s0c  (api_Col_46.s0 k) x0 x1 x2 x3 some
def api_Col_46.f (k : Nat) (a0 : List D_api_Col) (a1 : List D_api_Col) : Option Bool := api_Col_46.c  (api_Col_46.s0 k) a0 a1 some
theorem api_Col_46.is  {s0 : S_api_Col_46_0} : FnIs (env_api_Col_46  s0) 46 Go.Proofs.Tryz.f46 := ⟨Go.Proofs.Tryz.func46, rfl, rfl, rfl, by decide⟩
theorem api_Col_46.envok  {s0 : S_api_Col_46_0}  : EnvOK (env_api_Col_46  s0).toEnv := by
  intro f c h
  simp only [env_api_Col_46] at h
  simp at h
noncomputable abbrev api_Col_46.E (k : Nat) : FEnv := env_api_Col_46  (api_Col_46.s0 k)
theorem api_Col_46.hE (k : Nat) : EnvOK (api_Col_46.E k).toEnv := api_Col_46.envok 
theorem api_Col_46.segs_ok : ∀ k, ∀ s ∈ (api_Col_46.E k).segs, SegOK (api_Col_46.E k) Go.Proofs.Tryz.f46 s
  | 0 => by
    intro s hs
    simp only [api_Col_46.E, env_api_Col_46, List.mem_cons, List.not_mem_nil, or_false] at hs
    rcases hs with rfl
    · intro tvs blks res h; exfalso; simp only [seg_api_Col_46_0] at h; split at h <;> simp [api_Col_46.s0] at h
  | k + 1 => by
    intro s hs
    simp only [api_Col_46.E, env_api_Col_46, List.mem_cons, List.not_mem_nil, or_false] at hs
    rcases hs with rfl
    · refine seg_of_ev (E := api_Col_46.E k) (api_Col_46.hE k) ⟨api_Col_46.is.rvs⟩ (api_Col_46.segs_ok k) ?_
      intro tvs blks res h
      simp only [seg_api_Col_46_0] at h
      split at h
      · exact (api_Col_46.s0_ev.trans api_Col_46.s0c_bind).trans h
      · simp at h
theorem api_Col_46.ok (k : Nat) : CtOK Go.Proofs.Tryz.prog 46 (ct_api_Col_46 (api_Col_46.f k)) := by
  refine ct_of_ev (E := api_Col_46.E k) api_Col_46.is (api_Col_46.hE k) (api_Col_46.segs_ok k) rfl ?_
  intro tvs blks res h
  simp only [ct_api_Col_46] at h
  split at h
  · exact (api_Col_46.ev.trans api_Col_46.c_bind).trans h
  · simp at h

/-! ### schema_Same: function 21 -/
abbrev G_schema_Same : Type := ByteArray → Int → (List D_api_Col) → ByteArray → Int → (List D_api_Col) → Option Bool
def ct_schema_Same (g : G_schema_Same) : Ct where
  nin := 0
  mv := []
  F := fun tvs blks {β} K => match tvs, blks with
    | [.v (.agg [(.d .str a0), (.d (.int .i64) a1), (.d (.sl (.pair .str (.pair (.int .i64) (.pair .bool (.pair (.pair (.int .i64) (.pair (.int .i64) (.pair (.int .u64) (.pair .str .unit)))) .unit))))) a2)]), .v (.agg [(.d .str a3), (.d (.int .i64) a4), (.d (.sl (.pair .str (.pair (.int .i64) (.pair .bool (.pair (.pair (.int .i64) (.pair (.int .i64) (.pair (.int .u64) (.pair .str .unit)))) .unit))))) a5)])], [] => (g a0 a1 a2 a3 a4 a5).bind fun r => K ⟨.v (.one (.d .bool r)), []⟩
    | _, _ => none
  legit := fun tvs blks K r h => by
    split at h
    · obtain ⟨x, hx, hk⟩ := Option.bind_eq_some_iff.1 h
      refine ⟨_, ?_, hk⟩
      simp only [hx, Option.bind_some]
    · simp at h
noncomputable def env_schema_Same (g46 : G_api_Col_46)  : FEnv := { P := Go.Proofs.Tryz.prog, ct := fun m => if m = 46 then some (ct_api_Col_46 g46) else none, N := 24, body := Go.Proofs.Tryz.f21.body.getD .skip, rvs := [.tmp 4], rts := [4], nin := 0, rmv := [], segs := [] }
def schema_Same.c {β : Type} (g46 : G_api_Col_46)  (a0 : ByteArray) (a1 : Int) (a2 : List D_api_Col) (a3 : ByteArray) (a4 : Int) (a5 : List D_api_Col) (ret : Bool → Option β) : Option β := (bif ((ByteArray.toList a0) == (ByteArray.toList a3)) then (bif (a1 == a4) then ((g46 a2 a5).bind fun r0 => (ret (r0))) else (ret (false))) else (ret (false)))
theorem schema_Same.c_bind {β : Type} {g46 : G_api_Col_46}  {a0 : ByteArray} {a1 : Int} {a2 : List D_api_Col} {a3 : ByteArray} {a4 : Int} {a5 : List D_api_Col} {ret : Bool → Option β} : schema_Same.c g46  a0 a1 a2 a3 a4 a5 ret = (schema_Same.c g46  a0 a1 a2 a3 a4 a5 some).bind ret := by
  simp only [schema_Same.c, bif_bind, sum_bind, Option.bind_assoc, Option.bind_some, Option.bind_none, Option.bind_fun_some]
theorem schema_Same.ev {g46 : G_api_Col_46}  {a0 : ByteArray} {a1 : Int} {a2 : List D_api_Col} {a3 : ByteArray} {a4 : Int} {a5 : List D_api_Col} : evAt (env_schema_Same g46 ) [] [0, 1] [.v (.agg [(.d .str a0), (.d (.int .i64) a1), (.d (.sl T_api_Col) a2)]), .v (.agg [(.d .str a3), (.d (.int .i64) a4), (.d (.sl T_api_Col) a5)])] [] some = schema_Same.c g46  a0 a1 a2 a3 a4 a5 (fun r => some ⟨.v (.one (.d .bool r)), []⟩) := by
  kernel_rfl
def schema_Same.f (k : Nat) (a0 : ByteArray) (a1 : Int) (a2 : List D_api_Col) (a3 : ByteArray) (a4 : Int) (a5 : List D_api_Col) : Option Bool := schema_Same.c (api_Col_46.f k)  a0 a1 a2 a3 a4 a5 some
theorem schema_Same.is {g46 : G_api_Col_46}  : FnIs (env_schema_Same g46 ) 21 Go.Proofs.Tryz.f21 := ⟨Go.Proofs.Tryz.func21, rfl, rfl, rfl, by decide⟩
theorem schema_Same.envok {g46 : G_api_Col_46}  (h46 : CtOK Go.Proofs.Tryz.prog 46 (ct_api_Col_46 g46)) : EnvOK (env_schema_Same g46 ).toEnv := by
  intro f c h
  simp only [env_schema_Same] at h
  split at h
  · rename_i e; subst e; cases h; exact h46
  simp at h
noncomputable abbrev schema_Same.E (k : Nat) : FEnv := env_schema_Same (api_Col_46.f k) 
theorem schema_Same.hE (k : Nat) : EnvOK (schema_Same.E k).toEnv := schema_Same.envok (api_Col_46.ok k)
theorem schema_Same.ok (k : Nat) : CtOK Go.Proofs.Tryz.prog 21 (ct_schema_Same (schema_Same.f k)) := by
  refine ct_of_ev (E := schema_Same.E k) schema_Same.is (schema_Same.hE k) (fun s hs => by simp [schema_Same.E, env_schema_Same] at hs) rfl ?_
  intro tvs blks res h
  simp only [ct_schema_Same] at h
  split at h
  · exact (schema_Same.ev.trans schema_Same.c_bind).trans h
  · simp at h

/-! ### slices_Index_string_string: function 72 -/
abbrev G_slices_Index_string_string : Type := (List ByteArray) → ByteArray → Option Int
def ct_slices_Index_string_string (g : G_slices_Index_string_string) : Ct where
  nin := 0
  mv := []
  F := fun tvs blks {β} K => match tvs, blks with
    | [.v (.one (.d (.sl .str) a0)), .v (.one (.d .str a1))], [] => (g a0 a1).bind fun r => K ⟨.v (.one (.d (.int .i64) r)), []⟩
    | _, _ => none
  legit := fun tvs blks K r h => by
    split at h
    · obtain ⟨x, hx, hk⟩ := Option.bind_eq_some_iff.1 h
      refine ⟨_, ?_, hk⟩
      simp only [hx, Option.bind_some]
    · simp at h
abbrev S_slices_Index_string_string_0 : Type := (List ByteArray) → ByteArray → Int → Int → Option Int
def seg_slices_Index_string_string_0 (g : S_slices_Index_string_string_0) : Seg where
  path := [4, 1, 0, 1]
  prep := []
  keep := [0, 1, 7, 8]
  F := fun tvs blks {β} K => match tvs, blks with
    | [.v (.one (.d (.sl .str) x0)), .v (.one (.d .str x1)), .v (.one (.d (.int .i64) x2)), .v (.one (.d (.int .i64) x3))], [] => (g x0 x1 x2 x3).bind fun r => K ⟨.v (.one (.d (.int .i64) r)), []⟩
    | _, _ => none
  legit := fun tvs blks K r h => by
    split at h
    · obtain ⟨x, hx, hk⟩ := Option.bind_eq_some_iff.1 h
      refine ⟨_, ?_, hk⟩
      simp only [hx, Option.bind_some]
    · simp at h
noncomputable def env_slices_Index_string_string  (s0 : S_slices_Index_string_string_0) : FEnv := { P := Go.Proofs.Tryz.prog, ct := fun m => none, N := 19, body := Go.Proofs.Tryz.f72.body.getD .skip, rvs := [.tmp 4], rts := [3], nin := 0, rmv := [], segs := [seg_slices_Index_string_string_0 s0] }
def slices_Index_string_string.c {β : Type}  (s0 : S_slices_Index_string_string_0) (a0 : List ByteArray) (a1 : ByteArray) (ret : Int → Option β) : Option β := ((s0 a0 a1 ((List.length a0) : Int) (0 : Int)).bind ret)
def slices_Index_string_string.s0c {β : Type}  (s0 : S_slices_Index_string_string_0) (x0 : List ByteArray) (x1 : ByteArray) (x2 : Int) (x3 : Int) (ret : Int → Option β) : Option β := (bif (decide (x3 < x2)) then (bif ((decide ((0 : Int) ≤ x3)) && (decide (x3 < ((List.length x0) : Int)))) then (bif ((ByteArray.toList x1) == (ByteArray.toList (elem Ty.str x0 x3))) then (ret (x3)) else ((s0 x0 x1 x2 (IntKind.wrap IntKind.i64 (x3 + (1 : Int)))).bind ret)) else none) else (ret ((-1 : Int))))
theorem slices_Index_string_string.c_bind {β : Type}  {s0 : S_slices_Index_string_string_0} {a0 : List ByteArray} {a1 : ByteArray} {ret : Int → Option β} : slices_Index_string_string.c  s0 a0 a1 ret = (slices_Index_string_string.c  s0 a0 a1 some).bind ret := by
  simp only [slices_Index_string_string.c, bif_bind, sum_bind, Option.bind_assoc, Option.bind_some, Option.bind_none, Option.bind_fun_some]
theorem slices_Index_string_string.s0c_bind {β : Type}  {s0 : S_slices_Index_string_string_0} {x0 : List ByteArray} {x1 : ByteArray} {x2 : Int} {x3 : Int} {ret : Int → Option β} : slices_Index_string_string.s0c  s0 x0 x1 x2 x3 ret = (slices_Index_string_string.s0c  s0 x0 x1 x2 x3 some).bind ret := by
  simp only [slices_Index_string_string.s0c, bif_bind, sum_bind, Option.bind_assoc, Option.bind_some, Option.bind_none, Option.bind_fun_some]
theorem slices_Index_string_string.ev  {s0 : S_slices_Index_string_string_0} {a0 : List ByteArray} {a1 : ByteArray} : evAt (env_slices_Index_string_string  s0) [] [0, 1] [.v (.one (.d (.sl .str) a0)), .v (.one (.d .str a1))] [] some = slices_Index_string_string.c  s0 a0 a1 (fun r => some ⟨.v (.one (.d (.int .i64) r)), []⟩) := by
  kernel_rfl
theorem slices_Index_string_string.s0_ev  {s0 : S_slices_Index_string_string_0} {x0 : List ByteArray} {x1 : ByteArray} {x2 : Int} {x3 : Int} : evAt (env_slices_Index_string_string  s0) [4, 1, 0, 1] [0, 1, 7, 8] [.v (.one (.d (.sl .str) x0)), .v (.one (.d .str x1)), .v (.one (.d (.int .i64) x2)), .v (.one (.d (.int .i64) x3))] [] some = slices_Index_string_string.s0c  s0 x0 x1 x2 x3 (fun r => some ⟨.v (.one (.d (.int .i64) r)), []⟩) := by
  kernel_rfl
def slices_Index_string_string.s0 : Nat → (List ByteArray) → ByteArray → Int → Int → Option Int
  | 0, _, _, _, _ => none
  | k + 1, x0, x1, x2, x3 => slices_Index_string_string.s0c  (slices_Index_string_string.s0 k) x0 x1 x2 x3 some
def slices_Index_string_string.f (k : Nat) (a0 : List ByteArray) (a1 : ByteArray) : Option Int := slices_Index_string_string.c  (slices_Index_string_string.s0 k) a0 a1 some
theorem slices_Index_string_string.is  {s0 : S_slices_Index_string_string_0} : FnIs (env_slices_Index_string_string  s0) 72 Go.Proofs.Tryz.f72 := ⟨Go.Proofs.Tryz.func72, rfl, rfl, rfl, by decide⟩
theorem slices_Index_string_string.envok  {s0 : S_slices_Index_string_string_0}  : EnvOK (env_slices_Index_string_string  s0).toEnv := by
  intro f c h
  simp only [env_slices_Index_string_string] at h
  simp at h
noncomputable abbrev slices_Index_string_string.E (k : Nat) : FEnv := env_slices_Index_string_string  (slices_Index_string_string.s0 k)
theorem slices_Index_string_string.hE (k : Nat) : EnvOK (slices_Index_string_string.E k).toEnv := slices_Index_string_string.envok 
theorem slices_Index_string_string.segs_ok : ∀ k, ∀ s ∈ (slices_Index_string_string.E k).segs, SegOK (slices_Index_string_string.E k) Go.Proofs.Tryz.f72 s
  | 0 => by
    intro s hs
    simp only [slices_Index_string_string.E, env_slices_Index_string_string, List.mem_cons, List.not_mem_nil, or_false] at hs
    rcases hs with rfl
    · intro tvs blks res h; exfalso; simp only [seg_slices_Index_string_string_0] at h; split at h <;> simp [slices_Index_string_string.s0] at h
  | k + 1 => by
    intro s hs
    simp only [slices_Index_string_string.E, env_slices_Index_string_string, List.mem_cons, List.not_mem_nil, or_false] at hs
    rcases hs with rfl
    · refine seg_of_ev (E := slices_Index_string_string.E k) (slices_Index_string_string.hE k) ⟨slices_Index_string_string.is.rvs⟩ (slices_Index_string_string.segs_ok k) ?_
      intro tvs blks res h
      simp only [seg_slices_Index_string_string_0] at h
      split at h
      · exact (slices_Index_string_string.s0_ev.trans slices_Index_string_string.s0c_bind).trans h
      · simp at h
theorem slices_Index_string_string.ok (k : Nat) : CtOK Go.Proofs.Tryz.prog 72 (ct_slices_Index_string_string (slices_Index_string_string.f k)) := by
  refine ct_of_ev (E := slices_Index_string_string.E k) slices_Index_string_string.is (slices_Index_string_string.hE k) (slices_Index_string_string.segs_ok k) rfl ?_
  intro tvs blks res h
  simp only [ct_slices_Index_string_string] at h
  split at h
  · exact (slices_Index_string_string.ev.trans slices_Index_string_string.c_bind).trans h
  · simp at h

/-! ### names_Find: function 49 -/
abbrev G_names_Find : Type := (List ByteArray) → ByteArray → Option Int
def ct_names_Find (g : G_names_Find) : Ct where
  nin := 0
  mv := []
  F := fun tvs blks {β} K => match tvs, blks with
    | [.v (.one (.d (.sl .str) a0)), .v (.one (.d .str a1))], [] => (g a0 a1).bind fun r => K ⟨.v (.one (.d (.int .i64) r)), []⟩
    | _, _ => none
  legit := fun tvs blks K r h => by
    split at h
    · obtain ⟨x, hx, hk⟩ := Option.bind_eq_some_iff.1 h
      refine ⟨_, ?_, hk⟩
      simp only [hx, Option.bind_some]
    · simp at h
noncomputable def env_names_Find (g72 : G_slices_Index_string_string)  : FEnv := { P := Go.Proofs.Tryz.prog, ct := fun m => if m = 72 then some (ct_slices_Index_string_string g72) else none, N := 8, body := Go.Proofs.Tryz.f49.body.getD .skip, rvs := [.tmp 4], rts := [3], nin := 0, rmv := [], segs := [] }
def names_Find.c {β : Type} (g72 : G_slices_Index_string_string)  (a0 : List ByteArray) (a1 : ByteArray) (ret : Int → Option β) : Option β := ((g72 a0 a1).bind fun r0 => (ret (r0)))
theorem names_Find.c_bind {β : Type} {g72 : G_slices_Index_string_string}  {a0 : List ByteArray} {a1 : ByteArray} {ret : Int → Option β} : names_Find.c g72  a0 a1 ret = (names_Find.c g72  a0 a1 some).bind ret := by
  simp only [names_Find.c, bif_bind, sum_bind, Option.bind_assoc, Option.bind_some, Option.bind_none, Option.bind_fun_some]
theorem names_Find.ev {g72 : G_slices_Index_string_string}  {a0 : List ByteArray} {a1 : ByteArray} : evAt (env_names_Find g72 ) [] [0, 1] [.v (.one (.d (.sl .str) a0)), .v (.one (.d .str a1))] [] some = names_Find.c g72  a0 a1 (fun r => some ⟨.v (.one (.d (.int .i64) r)), []⟩) := by
  kernel_rfl
def names_Find.f (k : Nat) (a0 : List ByteArray) (a1 : ByteArray) : Option Int := names_Find.c (slices_Index_string_string.f k)  a0 a1 some
theorem names_Find.is {g72 : G_slices_Index_string_string}  : FnIs (env_names_Find g72 ) 49 Go.Proofs.Tryz.f49 := ⟨Go.Proofs.Tryz.func49, rfl, rfl, rfl, by decide⟩
theorem names_Find.envok {g72 : G_slices_Index_string_string}  (h72 : CtOK Go.Proofs.Tryz.prog 72 (ct_slices_Index_string_string g72)) : EnvOK (env_names_Find g72 ).toEnv := by
  intro f c h
  simp only [env_names_Find] at h
  split at h
  · rename_i e; subst e; cases h; exact h72
  simp at h
noncomputable abbrev names_Find.E (k : Nat) : FEnv := env_names_Find (slices_Index_string_string.f k) 
theorem names_Find.hE (k : Nat) : EnvOK (names_Find.E k).toEnv := names_Find.envok (slices_Index_string_string.ok k)
theorem names_Find.ok (k : Nat) : CtOK Go.Proofs.Tryz.prog 49 (ct_names_Find (names_Find.f k)) := by
  refine ct_of_ev (E := names_Find.E k) names_Find.is (names_Find.hE k) (fun s hs => by simp [names_Find.E, env_names_Find] at hs) rfl ?_
  intro tvs blks res h
  simp only [ct_names_Find] at h
  split at h
  · exact (names_Find.ev.trans names_Find.c_bind).trans h
  · simp at h

/-! ### schema_Find: function 23 -/
abbrev G_schema_Find : Type := ByteArray → Int → (List D_api_Col) → ByteArray → Option Int
def ct_schema_Find (g : G_schema_Find) : Ct where
  nin := 0
  mv := []
  F := fun tvs blks {β} K => match tvs, blks with
    | [.v (.agg [(.d .str a0), (.d (.int .i64) a1), (.d (.sl (.pair .str (.pair (.int .i64) (.pair .bool (.pair (.pair (.int .i64) (.pair (.int .i64) (.pair (.int .u64) (.pair .str .unit)))) .unit))))) a2)]), .v (.one (.d .str a3))], [] => (g a0 a1 a2 a3).bind fun r => K ⟨.v (.one (.d (.int .i64) r)), []⟩
    | _, _ => none
  legit := fun tvs blks K r h => by
    split at h
    · obtain ⟨x, hx, hk⟩ := Option.bind_eq_some_iff.1 h
      refine ⟨_, ?_, hk⟩
      simp only [hx, Option.bind_some]
    · simp at h
noncomputable def env_schema_Find (g49 : G_names_Find) (g50 : G_schema_words)  : FEnv := { P := Go.Proofs.Tryz.prog, ct := fun m => if m = 49 then some (ct_names_Find g49) else if m = 50 then some (ct_schema_words g50) else none, N := 10, body := Go.Proofs.Tryz.f23.body.getD .skip, rvs := [.tmp 4], rts := [3], nin := 0, rmv := [], segs := [] }
def schema_Find.c {β : Type} (g49 : G_names_Find) (g50 : G_schema_words)  (a0 : ByteArray) (a1 : Int) (a2 : List D_api_Col) (a3 : ByteArray) (ret : Int → Option β) : Option β := ((g50 a2).bind fun r0 => ((g49 r0 a3).bind fun r1 => (ret (r1))))
theorem schema_Find.c_bind {β : Type} {g49 : G_names_Find} {g50 : G_schema_words}  {a0 : ByteArray} {a1 : Int} {a2 : List D_api_Col} {a3 : ByteArray} {ret : Int → Option β} : schema_Find.c g49 g50  a0 a1 a2 a3 ret = (schema_Find.c g49 g50  a0 a1 a2 a3 some).bind ret := by
  simp only [schema_Find.c, bif_bind, sum_bind, Option.bind_assoc, Option.bind_some, Option.bind_none, Option.bind_fun_some]
theorem schema_Find.ev {g49 : G_names_Find} {g50 : G_schema_words}  {a0 : ByteArray} {a1 : Int} {a2 : List D_api_Col} {a3 : ByteArray} : evAt (env_schema_Find g49 g50 ) [] [0, 1] [.v (.agg [(.d .str a0), (.d (.int .i64) a1), (.d (.sl T_api_Col) a2)]), .v (.one (.d .str a3))] [] some = schema_Find.c g49 g50  a0 a1 a2 a3 (fun r => some ⟨.v (.one (.d (.int .i64) r)), []⟩) := by
  kernel_rfl
def schema_Find.f (k : Nat) (a0 : ByteArray) (a1 : Int) (a2 : List D_api_Col) (a3 : ByteArray) : Option Int := schema_Find.c (names_Find.f k) (schema_words.f k)  a0 a1 a2 a3 some
theorem schema_Find.is {g49 : G_names_Find} {g50 : G_schema_words}  : FnIs (env_schema_Find g49 g50 ) 23 Go.Proofs.Tryz.f23 := ⟨Go.Proofs.Tryz.func23, rfl, rfl, rfl, by decide⟩
theorem schema_Find.envok {g49 : G_names_Find} {g50 : G_schema_words}  (h49 : CtOK Go.Proofs.Tryz.prog 49 (ct_names_Find g49)) (h50 : CtOK Go.Proofs.Tryz.prog 50 (ct_schema_words g50)) : EnvOK (env_schema_Find g49 g50 ).toEnv := by
  intro f c h
  simp only [env_schema_Find] at h
  split at h
  · rename_i e; subst e; cases h; exact h49
  split at h
  · rename_i e; subst e; cases h; exact h50
  simp at h
noncomputable abbrev schema_Find.E (k : Nat) : FEnv := env_schema_Find (names_Find.f k) (schema_words.f k) 
theorem schema_Find.hE (k : Nat) : EnvOK (schema_Find.E k).toEnv := schema_Find.envok (names_Find.ok k) (schema_words.ok k)
theorem schema_Find.ok (k : Nat) : CtOK Go.Proofs.Tryz.prog 23 (ct_schema_Find (schema_Find.f k)) := by
  refine ct_of_ev (E := schema_Find.E k) schema_Find.is (schema_Find.hE k) (fun s hs => by simp [schema_Find.E, env_schema_Find] at hs) rfl ?_
  intro tvs blks res h
  simp only [ct_schema_Find] at h
  split at h
  · exact (schema_Find.ev.trans schema_Find.c_bind).trans h
  · simp at h

/-! ### schema_CheckCol: function 24 -/
abbrev G_schema_CheckCol : Type := ByteArray → Int → Bool → Int → Int → Int → ByteArray → Option Int
def ct_schema_CheckCol (g : G_schema_CheckCol) : Ct where
  nin := 0
  mv := []
  F := fun tvs blks {β} K => match tvs, blks with
    | [.v (.agg [(.d .str a0), (.d (.int .i64) a1), (.d .bool a2), (.d (.int .i64) a3), (.d (.int .i64) a4), (.d (.int .u64) a5), (.d .str a6)])], [] => (g a0 a1 a2 a3 a4 a5 a6).bind fun r => K ⟨.v (.one (.d (.int .i64) r)), []⟩
    | _, _ => none
  legit := fun tvs blks K r h => by
    split at h
    · obtain ⟨x, hx, hk⟩ := Option.bind_eq_some_iff.1 h
      refine ⟨_, ?_, hk⟩
      simp only [hx, Option.bind_some]
    · simp at h
noncomputable def env_schema_CheckCol (g51 : G_schema_col)  : FEnv := { P := Go.Proofs.Tryz.prog, ct := fun m => if m = 47 then some (ct_schema_number ) else if m = 51 then some (ct_schema_col g51) else none, N := 6, body := Go.Proofs.Tryz.f24.body.getD .skip, rvs := [.tmp 2], rts := [29], nin := 0, rmv := [], segs := [] }
def schema_CheckCol.c {β : Type} (g51 : G_schema_col)  (a0 : ByteArray) (a1 : Int) (a2 : Bool) (a3 : Int) (a4 : Int) (a5 : Int) (a6 : ByteArray) (ret : Int → Option β) : Option β := ((g51 a0 a1 a2 a3 a4 a5 a6).bind fun r0 => (Sum.elim (fun r1 => (ret (r1.1))) (fun r2 => (ret ((0 : Int)))) r0))
theorem schema_CheckCol.c_bind {β : Type} {g51 : G_schema_col}  {a0 : ByteArray} {a1 : Int} {a2 : Bool} {a3 : Int} {a4 : Int} {a5 : Int} {a6 : ByteArray} {ret : Int → Option β} : schema_CheckCol.c g51  a0 a1 a2 a3 a4 a5 a6 ret = (schema_CheckCol.c g51  a0 a1 a2 a3 a4 a5 a6 some).bind ret := by
  simp only [schema_CheckCol.c, bif_bind, sum_bind, Option.bind_assoc, Option.bind_some, Option.bind_none, Option.bind_fun_some]
theorem schema_CheckCol.ev {g51 : G_schema_col}  {a0 : ByteArray} {a1 : Int} {a2 : Bool} {a3 : Int} {a4 : Int} {a5 : Int} {a6 : ByteArray} : evAt (env_schema_CheckCol g51 ) [] [0] [.v (.agg [(.d .str a0), (.d (.int .i64) a1), (.d .bool a2), (.d (.int .i64) a3), (.d (.int .i64) a4), (.d (.int .u64) a5), (.d .str a6)])] [] some = schema_CheckCol.c g51  a0 a1 a2 a3 a4 a5 a6 (fun r => some ⟨.v (.one (.d (.int .i64) r)), []⟩) := by
  kernel_rfl
def schema_CheckCol.f (k : Nat) (a0 : ByteArray) (a1 : Int) (a2 : Bool) (a3 : Int) (a4 : Int) (a5 : Int) (a6 : ByteArray) : Option Int := schema_CheckCol.c  (schema_col.f k)  a0 a1 a2 a3 a4 a5 a6 some
theorem schema_CheckCol.is {g51 : G_schema_col}  : FnIs (env_schema_CheckCol g51 ) 24 Go.Proofs.Tryz.f24 := ⟨Go.Proofs.Tryz.func24, rfl, rfl, rfl, by decide⟩
theorem schema_CheckCol.envok {g51 : G_schema_col}  (h47 : CtOK Go.Proofs.Tryz.prog 47 (ct_schema_number )) (h51 : CtOK Go.Proofs.Tryz.prog 51 (ct_schema_col g51)) : EnvOK (env_schema_CheckCol g51 ).toEnv := by
  intro f c h
  simp only [env_schema_CheckCol] at h
  split at h
  · rename_i e; subst e; cases h; exact h47
  split at h
  · rename_i e; subst e; cases h; exact h51
  simp at h
noncomputable abbrev schema_CheckCol.E (k : Nat) : FEnv := env_schema_CheckCol  (schema_col.f k) 
theorem schema_CheckCol.hE (k : Nat) : EnvOK (schema_CheckCol.E k).toEnv := schema_CheckCol.envok (schema_number.ok k) (schema_col.ok k)
theorem schema_CheckCol.ok (k : Nat) : CtOK Go.Proofs.Tryz.prog 24 (ct_schema_CheckCol (schema_CheckCol.f k)) := by
  refine ct_of_ev (E := schema_CheckCol.E k) schema_CheckCol.is (schema_CheckCol.hE k) (fun s hs => by simp [schema_CheckCol.E, env_schema_CheckCol] at hs) rfl ?_
  intro tvs blks res h
  simp only [ct_schema_CheckCol] at h
  split at h
  · exact (schema_CheckCol.ev.trans schema_CheckCol.c_bind).trans h
  · simp at h
end Go.Proofs.YtddlebbjaadbeaaGreatDoor.Aev
