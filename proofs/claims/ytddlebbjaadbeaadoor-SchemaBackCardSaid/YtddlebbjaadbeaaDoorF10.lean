/- By a program of this session (AEV): functions of the program as plain functions, and that the machine does what they say. -/
import Derived.Test.YtddlebbjaadbeaaDoorTys
import Derived.Test.YtddlebbjaadbeaaDoorProg
import Derived.Laws.Externs
import Derived.Lib.Bytealg
import Derived.Test.YtddlebbjaadbeaaDoorF1
import Derived.Test.YtddlebbjaadbeaaDoorF4
import Derived.Test.YtddlebbjaadbeaaDoorF5
import Derived.Test.YtddlebbjaadbeaaDoorF6
import Derived.Test.YtddlebbjaadbeaaDoorF7
import Derived.Test.YtddlebbjaadbeaaDoorF9
namespace Go.Proofs.YtddlebbjaadbeaaDoor.Aev
set_option linter.unusedVariables false
set_option linter.unusedSimpArgs false
set_option maxRecDepth 100000
set_option maxHeartbeats 4000000
open Go
/-! ### schema_Read: function 15 -/
abbrev G_schema_Read : Type := ByteArray → Option (ByteArray × Int × (List D_api_Col) × ByteArray × Int)
def ct_schema_Read (g : G_schema_Read) : Ct where
  nin := 0
  mv := []
  F := fun tvs blks {β} K => match tvs, blks with
    | [.v (.one (.d .str a0))], [] => (g a0).bind fun r => K ⟨.tup [(.agg [(.d .str r.1), (.d (.int .i64) r.2.1), (.d (.sl T_api_Col) r.2.2.1)]), (.one (.d .str r.2.2.2.1)), (.one (.d (.int .i64) r.2.2.2.2))], []⟩
    | _, _ => none
  legit := fun tvs blks K r h => by
    split at h
    · obtain ⟨x, hx, hk⟩ := Option.bind_eq_some_iff.1 h
      refine ⟨_, ?_, hk⟩
      simp only [hx, Option.bind_some]
    · simp at h
abbrev S_schema_Read_0 : Type := Int → Int → ByteArray → Int → ByteArray → Int → ByteArray → Int → (List D_api_Col) → Option (ByteArray × Int × (List D_api_Col) × ByteArray × Int)
abbrev S_schema_Read_1 : Type := ByteArray → Int → ByteArray → Int → ByteArray → Int → (List D_api_Col) → Option (ByteArray × Int × (List D_api_Col) × ByteArray × Int)
def seg_schema_Read_0 (g : S_schema_Read_0) : Seg where
  path := [4, 1, 0, 1, 1, 1, 1, 1]
  prep := [.cellOwn 6 2 T_api_Col]
  keep := [2, 5, 6, 18, 19]
  F := fun tvs blks {β} K => match tvs, blks with
    | [.v (.one (.ptr 0 0)), .v (.one (.ptr 1 0)), .v (.one (.ptr 2 0)), .v (.one (.d (.int .i64) x0)), .v (.one (.d (.int .i64) x1))], [some (.box [(.d .str x2), (.d (.int .i64) x3), (.raw (.slice none 0 0))]), some (.box [(.d .str x4), (.d (.int .i64) x5)]), some (.box [(.d .str x6), (.d (.int .i64) x7), (.own 3)]), some (.own (.pair .str (.pair (.int .i64) (.pair .bool (.pair (.pair (.int .i64) (.pair (.int .i64) (.pair (.int .u64) (.pair .str .unit)))) .unit)))) false x8)] => (g x0 x1 x2 x3 x4 x5 x6 x7 x8).bind fun r => K ⟨.tup [(.agg [(.d .str r.1), (.d (.int .i64) r.2.1), (.d (.sl T_api_Col) r.2.2.1)]), (.one (.d .str r.2.2.2.1)), (.one (.d (.int .i64) r.2.2.2.2))], []⟩
    | _, _ => none
  legit := fun tvs blks K r h => by
    split at h
    · obtain ⟨x, hx, hk⟩ := Option.bind_eq_some_iff.1 h
      refine ⟨_, ?_, hk⟩
      simp only [hx, Option.bind_some]
    · simp at h
def seg_schema_Read_1 (g : S_schema_Read_1) : Seg where
  path := [1, 1, 1, 1, 1, 1, 1]
  prep := []
  keep := [2, 5, 6]
  F := fun tvs blks {β} K => match tvs, blks with
    | [.v (.one (.ptr 0 0)), .v (.one (.ptr 1 0)), .v (.one (.ptr 2 0))], [some (.box [(.d .str x0), (.d (.int .i64) x1), (.raw (.slice none 0 0))]), some (.box [(.d .str x2), (.d (.int .i64) x3)]), some (.box [(.d .str x4), (.d (.int .i64) x5), (.own 3)]), some (.own (.pair .str (.pair (.int .i64) (.pair .bool (.pair (.pair (.int .i64) (.pair (.int .i64) (.pair (.int .u64) (.pair .str .unit)))) .unit)))) false x6)] => (g x0 x1 x2 x3 x4 x5 x6).bind fun r => K ⟨.tup [(.agg [(.d .str r.1), (.d (.int .i64) r.2.1), (.d (.sl T_api_Col) r.2.2.1)]), (.one (.d .str r.2.2.2.1)), (.one (.d (.int .i64) r.2.2.2.2))], []⟩
    | _, _ => none
  legit := fun tvs blks K r h => by
    split at h
    · obtain ⟨x, hx, hk⟩ := Option.bind_eq_some_iff.1 h
      refine ⟨_, ?_, hk⟩
      simp only [hx, Option.bind_some]
    · simp at h
noncomputable def env_schema_Read (g10 : G_schema_Check) (g38 : G_schema_reader_text) (g39 : G_schema_reader_uint) (g40 : G_schema_reader_flag) (g41 : G_schema_reader_value) (g42 : G_schema_reader_fail) (s0 : S_schema_Read_0) (s1 : S_schema_Read_1) : FEnv := { P := Go.Proofs.Tryd.prog, ct := fun m => if m = 10 then some (ct_schema_Check g10) else if m = 38 then some (ct_schema_reader_text g38) else if m = 39 then some (ct_schema_reader_uint g39) else if m = 40 then some (ct_schema_reader_flag g40) else if m = 41 then some (ct_schema_reader_value g41) else if m = 42 then some (ct_schema_reader_fail g42) else none, N := 64, body := Go.Proofs.Tryd.f15.body.getD .skip, rvs := [.cell 2 24, .tmp 3, .tmp 4], rts := [24, 9, 27], nin := 0, rmv := [], segs := [seg_schema_Read_0 s0, seg_schema_Read_1 s1] }
def schema_Read.c {β : Type} (g10 : G_schema_Check) (g38 : G_schema_reader_text) (g39 : G_schema_reader_uint) (g40 : G_schema_reader_flag) (g41 : G_schema_reader_value) (g42 : G_schema_reader_fail) (s0 : S_schema_Read_0) (s1 : S_schema_Read_1) (a0 : ByteArray) (ret : (ByteArray × Int × (List D_api_Col) × ByteArray × Int) → Option β) : Option β := ((g38 a0 (0 : Int)).bind fun r0 => ((g39 (100 : Int) (1 : Int) r0.2.1 r0.2.2).bind fun r1 => ((g39 (8 : Int) (2 : Int) r1.2.1 r1.2.2).bind fun r2 => ((s0 r2.1 (0 : Int) (ByteArray.mk (List.toArray [])) (0 : Int) r2.2.1 r2.2.2 r0.1 r1.1 []).bind ret))))
def schema_Read.s0c {β : Type} (g10 : G_schema_Check) (g38 : G_schema_reader_text) (g39 : G_schema_reader_uint) (g40 : G_schema_reader_flag) (g41 : G_schema_reader_value) (g42 : G_schema_reader_fail) (s0 : S_schema_Read_0) (s1 : S_schema_Read_1) (x0 : Int) (x1 : Int) (x2 : ByteArray) (x3 : Int) (x4 : ByteArray) (x5 : Int) (x6 : ByteArray) (x7 : Int) (x8 : List D_api_Col) (ret : (ByteArray × Int × (List D_api_Col) × ByteArray × Int) → Option β) : Option β := (bif (decide (x1 < x0)) then ((g38 x4 x5).bind fun r0 => ((g39 (100 : Int) (1 : Int) r0.2.1 r0.2.2).bind fun r1 => ((g40 r1.2.1 r1.2.2).bind fun r2 => ((g41 r2.2.1 r2.2.2).bind fun r3 => (bif (decide ((((List.length x8) + (1 : Nat)) * (72 : Nat)) ≤ (35184372088832 : Nat))) then ((s0 x0 (IntKind.wrap IntKind.i64 (x1 + (1 : Int))) x2 x3 r3.2.2.2.2.1 r3.2.2.2.2.2 x6 x7 (x8 ++ [(r0.1, (r1.1, (r2.1, ((r3.1, (r3.2.1, (r3.2.2.1, (r3.2.2.2.1, ())))), ()))))])).bind ret) else none))))) else (bif (x5 == (0 : Int)) then ((g10 x6 x7 x8).bind fun r4 => ((g42 r4 x4 x5).bind fun r5 => ((s1 x2 x3 r5.1 r5.2 x6 x7 x8).bind ret))) else ((s1 x2 x3 x4 x5 x6 x7 x8).bind ret)))
def schema_Read.s1c {β : Type} (g10 : G_schema_Check) (g38 : G_schema_reader_text) (g39 : G_schema_reader_uint) (g40 : G_schema_reader_flag) (g41 : G_schema_reader_value) (g42 : G_schema_reader_fail) (s0 : S_schema_Read_0) (s1 : S_schema_Read_1) (x0 : ByteArray) (x1 : Int) (x2 : ByteArray) (x3 : Int) (x4 : ByteArray) (x5 : Int) (x6 : List D_api_Col) (ret : (ByteArray × Int × (List D_api_Col) × ByteArray × Int) → Option β) : Option β := (bif (x3 != (0 : Int)) then (ret ((ByteArray.mk (List.toArray [])), (0 : Int), [], (ByteArray.mk (List.toArray [])), x3)) else (ret (x4, x5, x6, x2, (0 : Int))))
theorem schema_Read.c_bind {β : Type} {g10 : G_schema_Check} {g38 : G_schema_reader_text} {g39 : G_schema_reader_uint} {g40 : G_schema_reader_flag} {g41 : G_schema_reader_value} {g42 : G_schema_reader_fail} {s0 : S_schema_Read_0} {s1 : S_schema_Read_1} {a0 : ByteArray} {ret : (ByteArray × Int × (List D_api_Col) × ByteArray × Int) → Option β} : schema_Read.c g10 g38 g39 g40 g41 g42 s0 s1 a0 ret = (schema_Read.c g10 g38 g39 g40 g41 g42 s0 s1 a0 some).bind ret := by
  simp only [schema_Read.c, bif_bind, sum_bind, Option.bind_assoc, Option.bind_some, Option.bind_none, Option.bind_fun_some]
theorem schema_Read.s0c_bind {β : Type} {g10 : G_schema_Check} {g38 : G_schema_reader_text} {g39 : G_schema_reader_uint} {g40 : G_schema_reader_flag} {g41 : G_schema_reader_value} {g42 : G_schema_reader_fail} {s0 : S_schema_Read_0} {s1 : S_schema_Read_1} {x0 : Int} {x1 : Int} {x2 : ByteArray} {x3 : Int} {x4 : ByteArray} {x5 : Int} {x6 : ByteArray} {x7 : Int} {x8 : List D_api_Col} {ret : (ByteArray × Int × (List D_api_Col) × ByteArray × Int) → Option β} : schema_Read.s0c g10 g38 g39 g40 g41 g42 s0 s1 x0 x1 x2 x3 x4 x5 x6 x7 x8 ret = (schema_Read.s0c g10 g38 g39 g40 g41 g42 s0 s1 x0 x1 x2 x3 x4 x5 x6 x7 x8 some).bind ret := by
  simp only [schema_Read.s0c, bif_bind, sum_bind, Option.bind_assoc, Option.bind_some, Option.bind_none, Option.bind_fun_some]
theorem schema_Read.s1c_bind {β : Type} {g10 : G_schema_Check} {g38 : G_schema_reader_text} {g39 : G_schema_reader_uint} {g40 : G_schema_reader_flag} {g41 : G_schema_reader_value} {g42 : G_schema_reader_fail} {s0 : S_schema_Read_0} {s1 : S_schema_Read_1} {x0 : ByteArray} {x1 : Int} {x2 : ByteArray} {x3 : Int} {x4 : ByteArray} {x5 : Int} {x6 : List D_api_Col} {ret : (ByteArray × Int × (List D_api_Col) × ByteArray × Int) → Option β} : schema_Read.s1c g10 g38 g39 g40 g41 g42 s0 s1 x0 x1 x2 x3 x4 x5 x6 ret = (schema_Read.s1c g10 g38 g39 g40 g41 g42 s0 s1 x0 x1 x2 x3 x4 x5 x6 some).bind ret := by
  simp only [schema_Read.s1c, bif_bind, sum_bind, Option.bind_assoc, Option.bind_some, Option.bind_none, Option.bind_fun_some]
theorem schema_Read.ev {g10 : G_schema_Check} {g38 : G_schema_reader_text} {g39 : G_schema_reader_uint} {g40 : G_schema_reader_flag} {g41 : G_schema_reader_value} {g42 : G_schema_reader_fail} {s0 : S_schema_Read_0} {s1 : S_schema_Read_1} {a0 : ByteArray} : evAt (env_schema_Read g10 g38 g39 g40 g41 g42 s0 s1) [] [0] [.v (.one (.d .str a0))] [] some = schema_Read.c g10 g38 g39 g40 g41 g42 s0 s1 a0 (fun r => some ⟨.tup [(.agg [(.d .str r.1), (.d (.int .i64) r.2.1), (.d (.sl T_api_Col) r.2.2.1)]), (.one (.d .str r.2.2.2.1)), (.one (.d (.int .i64) r.2.2.2.2))], []⟩) := by
  kernel_rfl
theorem schema_Read.s0_ev {g10 : G_schema_Check} {g38 : G_schema_reader_text} {g39 : G_schema_reader_uint} {g40 : G_schema_reader_flag} {g41 : G_schema_reader_value} {g42 : G_schema_reader_fail} {s0 : S_schema_Read_0} {s1 : S_schema_Read_1} {x0 : Int} {x1 : Int} {x2 : ByteArray} {x3 : Int} {x4 : ByteArray} {x5 : Int} {x6 : ByteArray} {x7 : Int} {x8 : List D_api_Col} : evAt (env_schema_Read g10 g38 g39 g40 g41 g42 s0 s1) [4, 1, 0, 1, 1, 1, 1, 1] [2, 5, 6, 18, 19] [.v (.one (.ptr 0 0)), .v (.one (.ptr 1 0)), .v (.one (.ptr 2 0)), .v (.one (.d (.int .i64) x0)), .v (.one (.d (.int .i64) x1))] [some (.box [(.d .str x2), (.d (.int .i64) x3), (.raw (.slice none 0 0))]), some (.box [(.d .str x4), (.d (.int .i64) x5)]), some (.box [(.d .str x6), (.d (.int .i64) x7), (.own 3)]), some (.own T_api_Col false x8)] some = schema_Read.s0c g10 g38 g39 g40 g41 g42 s0 s1 x0 x1 x2 x3 x4 x5 x6 x7 x8 (fun r => some ⟨.tup [(.agg [(.d .str r.1), (.d (.int .i64) r.2.1), (.d (.sl T_api_Col) r.2.2.1)]), (.one (.d .str r.2.2.2.1)), (.one (.d (.int .i64) r.2.2.2.2))], []⟩) := by
  kernel_rfl
theorem schema_Read.s1_ev {g10 : G_schema_Check} {g38 : G_schema_reader_text} {g39 : G_schema_reader_uint} {g40 : G_schema_reader_flag} {g41 : G_schema_reader_value} {g42 : G_schema_reader_fail} {s0 : S_schema_Read_0} {s1 : S_schema_Read_1} {x0 : ByteArray} {x1 : Int} {x2 : ByteArray} {x3 : Int} {x4 : ByteArray} {x5 : Int} {x6 : List D_api_Col} : evAt (env_schema_Read g10 g38 g39 g40 g41 g42 s0 s1) [1, 1, 1, 1, 1, 1, 1] [2, 5, 6] [.v (.one (.ptr 0 0)), .v (.one (.ptr 1 0)), .v (.one (.ptr 2 0))] [some (.box [(.d .str x0), (.d (.int .i64) x1), (.raw (.slice none 0 0))]), some (.box [(.d .str x2), (.d (.int .i64) x3)]), some (.box [(.d .str x4), (.d (.int .i64) x5), (.own 3)]), some (.own T_api_Col false x6)] some = schema_Read.s1c g10 g38 g39 g40 g41 g42 s0 s1 x0 x1 x2 x3 x4 x5 x6 (fun r => some ⟨.tup [(.agg [(.d .str r.1), (.d (.int .i64) r.2.1), (.d (.sl T_api_Col) r.2.2.1)]), (.one (.d .str r.2.2.2.1)), (.one (.d (.int .i64) r.2.2.2.2))], []⟩) := by
  kernel_rfl
mutual
def schema_Read.s0 : Nat → Int → Int → ByteArray → Int → ByteArray → Int → ByteArray → Int → (List D_api_Col) → Option (ByteArray × Int × (List D_api_Col) × ByteArray × Int)
  | 0, _, _, _, _, _, _, _, _, _ => none
  | k + 1, x0, x1, x2, x3, x4, x5, x6, x7, x8 => schema_Read.s0c (schema_Check.f k) (schema_reader_text.f k) (schema_reader_uint.f k) (schema_reader_flag.f k) (schema_reader_value.f k) (schema_reader_fail.f k) (schema_Read.s0 k) (schema_Read.s1 k) x0 x1 x2 x3 x4 x5 x6 x7 x8 some
def schema_Read.s1 : Nat → ByteArray → Int → ByteArray → Int → ByteArray → Int → (List D_api_Col) → Option (ByteArray × Int × (List D_api_Col) × ByteArray × Int)
  | 0, _, _, _, _, _, _, _ => none
  | k + 1, x0, x1, x2, x3, x4, x5, x6 => schema_Read.s1c (schema_Check.f k) (schema_reader_text.f k) (schema_reader_uint.f k) (schema_reader_flag.f k) (schema_reader_value.f k) (schema_reader_fail.f k) (schema_Read.s0 k) (schema_Read.s1 k) x0 x1 x2 x3 x4 x5 x6 some
end
def schema_Read.f (k : Nat) (a0 : ByteArray) : Option (ByteArray × Int × (List D_api_Col) × ByteArray × Int) := schema_Read.c (schema_Check.f k) (schema_reader_text.f k) (schema_reader_uint.f k) (schema_reader_flag.f k) (schema_reader_value.f k) (schema_reader_fail.f k) (schema_Read.s0 k) (schema_Read.s1 k) a0 some
theorem schema_Read.is {g10 : G_schema_Check} {g38 : G_schema_reader_text} {g39 : G_schema_reader_uint} {g40 : G_schema_reader_flag} {g41 : G_schema_reader_value} {g42 : G_schema_reader_fail} {s0 : S_schema_Read_0} {s1 : S_schema_Read_1} : FnIs (env_schema_Read g10 g38 g39 g40 g41 g42 s0 s1) 15 Go.Proofs.Tryd.f15 := ⟨Go.Proofs.Tryd.func15, rfl, rfl, rfl, by decide⟩
theorem schema_Read.envok {g10 : G_schema_Check} {g38 : G_schema_reader_text} {g39 : G_schema_reader_uint} {g40 : G_schema_reader_flag} {g41 : G_schema_reader_value} {g42 : G_schema_reader_fail} {s0 : S_schema_Read_0} {s1 : S_schema_Read_1} (h10 : CtOK Go.Proofs.Tryd.prog 10 (ct_schema_Check g10)) (h38 : CtOK Go.Proofs.Tryd.prog 38 (ct_schema_reader_text g38)) (h39 : CtOK Go.Proofs.Tryd.prog 39 (ct_schema_reader_uint g39)) (h40 : CtOK Go.Proofs.Tryd.prog 40 (ct_schema_reader_flag g40)) (h41 : CtOK Go.Proofs.Tryd.prog 41 (ct_schema_reader_value g41)) (h42 : CtOK Go.Proofs.Tryd.prog 42 (ct_schema_reader_fail g42)) : EnvOK (env_schema_Read g10 g38 g39 g40 g41 g42 s0 s1).toEnv := by
  intro f c h
  simp only [env_schema_Read] at h
  split at h
  · rename_i e; subst e; cases h; exact h10
  split at h
  · rename_i e; subst e; cases h; exact h38
  split at h
  · rename_i e; subst e; cases h; exact h39
  split at h
  · rename_i e; subst e; cases h; exact h40
  split at h
  · rename_i e; subst e; cases h; exact h41
  split at h
  · rename_i e; subst e; cases h; exact h42
  simp at h
noncomputable abbrev schema_Read.E (k : Nat) : FEnv := env_schema_Read (schema_Check.f k) (schema_reader_text.f k) (schema_reader_uint.f k) (schema_reader_flag.f k) (schema_reader_value.f k) (schema_reader_fail.f k) (schema_Read.s0 k) (schema_Read.s1 k)
theorem schema_Read.hE (k : Nat) : EnvOK (schema_Read.E k).toEnv := schema_Read.envok (schema_Check.ok k) (schema_reader_text.ok k) (schema_reader_uint.ok k) (schema_reader_flag.ok k) (schema_reader_value.ok k) (schema_reader_fail.ok k)
theorem schema_Read.segs_ok : ∀ k, ∀ s ∈ (schema_Read.E k).segs, SegOK (schema_Read.E k) Go.Proofs.Tryd.f15 s
  | 0 => by
    intro s hs
    simp only [schema_Read.E, env_schema_Read, List.mem_cons, List.not_mem_nil, or_false] at hs
    rcases hs with rfl | rfl
    · intro tvs blks res h; exfalso; simp only [seg_schema_Read_0] at h; split at h <;> simp [schema_Read.s0] at h
    · intro tvs blks res h; exfalso; simp only [seg_schema_Read_1] at h; split at h <;> simp [schema_Read.s1] at h
  | k + 1 => by
    intro s hs
    simp only [schema_Read.E, env_schema_Read, List.mem_cons, List.not_mem_nil, or_false] at hs
    rcases hs with rfl | rfl
    · refine seg_of_ev (E := schema_Read.E k) (schema_Read.hE k) ⟨schema_Read.is.rvs⟩ (schema_Read.segs_ok k) ?_
      intro tvs blks res h
      simp only [seg_schema_Read_0] at h
      split at h
      · exact (schema_Read.s0_ev.trans schema_Read.s0c_bind).trans h
      · simp at h
    · refine seg_of_ev (E := schema_Read.E k) (schema_Read.hE k) ⟨schema_Read.is.rvs⟩ (schema_Read.segs_ok k) ?_
      intro tvs blks res h
      simp only [seg_schema_Read_1] at h
      split at h
      · exact (schema_Read.s1_ev.trans schema_Read.s1c_bind).trans h
      · simp at h
theorem schema_Read.ok (k : Nat) : CtOK Go.Proofs.Tryd.prog 15 (ct_schema_Read (schema_Read.f k)) := by
  refine ct_of_ev (E := schema_Read.E k) schema_Read.is (schema_Read.hE k) (schema_Read.segs_ok k) rfl ?_
  intro tvs blks res h
  simp only [ct_schema_Read] at h
  split at h
  · exact (schema_Read.ev.trans schema_Read.c_bind).trans h
  · simp at h

/-! ### api_Col_44: function 44 -/
abbrev G_api_Col_44 : Type := (List D_api_Col) → (List D_api_Col) → Option Bool
def ct_api_Col_44 (g : G_api_Col_44) : Ct where
  nin := 0
  mv := []
  F := fun tvs blks {β} K => match tvs, blks with
    | [.v (.one (.d (.sl (.pair .str (.pair (.int .i64) (.pair .bool (.pair (.pair (.int .i64) (.pair (.int .i64) (.pair (.int .u64) (.pair .str .unit)))) .unit))))) a0)), .v (.one (.d (.sl (.pair .str (.pair (.int .i64) (.pair .bool (.pair (.pair (.int .i64) (.pair (.int .i64) (.pair (.int .u64) (.pair .str .unit)))) .unit))))) a1))], [] => (g a0 a1).bind fun r => K ⟨.v (.one (.d .bool r)), []⟩
    | _, _ => none
  legit := fun tvs blks K r h => by
    split at h
    · obtain ⟨x, hx, hk⟩ := Option.bind_eq_some_iff.1 h
      refine ⟨_, ?_, hk⟩
      simp only [hx, Option.bind_some]
    · simp at h
abbrev S_api_Col_44_0 : Type := (List D_api_Col) → (List D_api_Col) → Int → Int → Option Bool
def seg_api_Col_44_0 (g : S_api_Col_44_0) : Seg where
  path := [4, 1, 0, 1, 1]
  prep := []
  keep := [0, 1, 12, 13]
  F := fun tvs blks {β} K => match tvs, blks with
    | [.v (.one (.d (.sl (.pair .str (.pair (.int .i64) (.pair .bool (.pair (.pair (.int .i64) (.pair (.int .i64) (.pair (.int .u64) (.pair .str .unit)))) .unit))))) x0)), .v (.one (.d (.sl (.pair .str (.pair (.int .i64) (.pair .bool (.pair (.pair (.int .i64) (.pair (.int .i64) (.pair (.int .u64) (.pair .str .unit)))) .unit))))) x1)), .v (.one (.d (.int .i64) x2)), .v (.one (.d (.int .i64) x3))], [] => (g x0 x1 x2 x3).bind fun r => K ⟨.v (.one (.d .bool r)), []⟩
    | _, _ => none
  legit := fun tvs blks K r h => by
    split at h
    · obtain ⟨x, hx, hk⟩ := Option.bind_eq_some_iff.1 h
      refine ⟨_, ?_, hk⟩
      simp only [hx, Option.bind_some]
    · simp at h
noncomputable def env_api_Col_44  (s0 : S_api_Col_44_0) : FEnv := { P := Go.Proofs.Tryd.prog, ct := fun m => none, N := 26, body := Go.Proofs.Tryd.f44.body.getD .skip, rvs := [.tmp 4], rts := [4], nin := 0, rmv := [], segs := [seg_api_Col_44_0 s0] }
def api_Col_44.c {β : Type}  (s0 : S_api_Col_44_0) (a0 : List D_api_Col) (a1 : List D_api_Col) (ret : Bool → Option β) : Option β := (bif (((List.length a0) : Int) != ((List.length a1) : Int)) then (ret (false)) else ((s0 a0 a1 ((List.length a0) : Int) (0 : Int)).bind ret))
def api_Col_44.s0c {β : Type}  (s0 : S_api_Col_44_0) (x0 : List D_api_Col) (x1 : List D_api_Col) (x2 : Int) (x3 : Int) (ret : Bool → Option β) : Option β := (bif (decide (x3 < x2)) then (bif ((decide ((0 : Int) ≤ x3)) && (decide (x3 < ((List.length x0) : Int)))) then (bif ((decide ((0 : Int) ≤ x3)) && (decide (x3 < ((List.length x1) : Int)))) then (bif (!(((ByteArray.toList (elem T_api_Col x0 x3).1) == (ByteArray.toList (elem T_api_Col x1 x3).1)) && (((elem T_api_Col x0 x3).2.1 == (elem T_api_Col x1 x3).2.1) && (((elem T_api_Col x0 x3).2.2.1 == (elem T_api_Col x1 x3).2.2.1) && ((((elem T_api_Col x0 x3).2.2.2.1.1 == (elem T_api_Col x1 x3).2.2.2.1.1) && (((elem T_api_Col x0 x3).2.2.2.1.2.1 == (elem T_api_Col x1 x3).2.2.2.1.2.1) && (((elem T_api_Col x0 x3).2.2.2.1.2.2.1 == (elem T_api_Col x1 x3).2.2.2.1.2.2.1) && (((ByteArray.toList (elem T_api_Col x0 x3).2.2.2.1.2.2.2.1) == (ByteArray.toList (elem T_api_Col x1 x3).2.2.2.1.2.2.2.1)) && true)))) && true))))) then (ret (false)) else ((s0 x0 x1 x2 (IntKind.wrap IntKind.i64 (x3 + (1 : Int)))).bind ret)) else none) else none) else (ret (true)))
theorem api_Col_44.c_bind {β : Type}  {s0 : S_api_Col_44_0} {a0 : List D_api_Col} {a1 : List D_api_Col} {ret : Bool → Option β} : api_Col_44.c  s0 a0 a1 ret = (api_Col_44.c  s0 a0 a1 some).bind ret := by
  simp only [api_Col_44.c, bif_bind, sum_bind, Option.bind_assoc, Option.bind_some, Option.bind_none, Option.bind_fun_some]
theorem api_Col_44.s0c_bind {β : Type}  {s0 : S_api_Col_44_0} {x0 : List D_api_Col} {x1 : List D_api_Col} {x2 : Int} {x3 : Int} {ret : Bool → Option β} : api_Col_44.s0c  s0 x0 x1 x2 x3 ret = (api_Col_44.s0c  s0 x0 x1 x2 x3 some).bind ret := by
  simp only [api_Col_44.s0c, bif_bind, sum_bind, Option.bind_assoc, Option.bind_some, Option.bind_none, Option.bind_fun_some]
theorem api_Col_44.ev  {s0 : S_api_Col_44_0} {a0 : List D_api_Col} {a1 : List D_api_Col} : evAt (env_api_Col_44  s0) [] [0, 1] [.v (.one (.d (.sl T_api_Col) a0)), .v (.one (.d (.sl T_api_Col) a1))] [] some = api_Col_44.c  s0 a0 a1 (fun r => some ⟨.v (.one (.d .bool r)), []⟩) := by
  kernel_rfl
theorem api_Col_44.s0_ev  {s0 : S_api_Col_44_0} {x0 : List D_api_Col} {x1 : List D_api_Col} {x2 : Int} {x3 : Int} : evAt (env_api_Col_44  s0) [4, 1, 0, 1, 1] [0, 1, 12, 13] [.v (.one (.d (.sl T_api_Col) x0)), .v (.one (.d (.sl T_api_Col) x1)), .v (.one (.d (.int .i64) x2)), .v (.one (.d (.int .i64) x3))] [] some = api_Col_44.s0c  s0 x0 x1 x2 x3 (fun r => some ⟨.v (.one (.d .bool r)), []⟩) := by
  kernel_rfl
def api_Col_44.s0 : Nat → (List D_api_Col) → (List D_api_Col) → Int → Int → Option Bool
  | 0, _, _, _, _ => none
  | k + 1, x0, x1, x2, x3 => api_Col_44.s0c  (api_Col_44.s0 k) x0 x1 x2 x3 some
def api_Col_44.f (k : Nat) (a0 : List D_api_Col) (a1 : List D_api_Col) : Option Bool := api_Col_44.c  (api_Col_44.s0 k) a0 a1 some
theorem api_Col_44.is  {s0 : S_api_Col_44_0} : FnIs (env_api_Col_44  s0) 44 Go.Proofs.Tryd.f44 := ⟨Go.Proofs.Tryd.func44, rfl, rfl, rfl, by decide⟩
theorem api_Col_44.envok  {s0 : S_api_Col_44_0}  : EnvOK (env_api_Col_44  s0).toEnv := by
  intro f c h
  simp only [env_api_Col_44] at h
  simp at h
noncomputable abbrev api_Col_44.E (k : Nat) : FEnv := env_api_Col_44  (api_Col_44.s0 k)
theorem api_Col_44.hE (k : Nat) : EnvOK (api_Col_44.E k).toEnv := api_Col_44.envok 
theorem api_Col_44.segs_ok : ∀ k, ∀ s ∈ (api_Col_44.E k).segs, SegOK (api_Col_44.E k) Go.Proofs.Tryd.f44 s
  | 0 => by
    intro s hs
    simp only [api_Col_44.E, env_api_Col_44, List.mem_cons, List.not_mem_nil, or_false] at hs
    rcases hs with rfl
    · intro tvs blks res h; exfalso; simp only [seg_api_Col_44_0] at h; split at h <;> simp [api_Col_44.s0] at h
  | k + 1 => by
    intro s hs
    simp only [api_Col_44.E, env_api_Col_44, List.mem_cons, List.not_mem_nil, or_false] at hs
    rcases hs with rfl
    · refine seg_of_ev (E := api_Col_44.E k) (api_Col_44.hE k) ⟨api_Col_44.is.rvs⟩ (api_Col_44.segs_ok k) ?_
      intro tvs blks res h
      simp only [seg_api_Col_44_0] at h
      split at h
      · exact (api_Col_44.s0_ev.trans api_Col_44.s0c_bind).trans h
      · simp at h
theorem api_Col_44.ok (k : Nat) : CtOK Go.Proofs.Tryd.prog 44 (ct_api_Col_44 (api_Col_44.f k)) := by
  refine ct_of_ev (E := api_Col_44.E k) api_Col_44.is (api_Col_44.hE k) (api_Col_44.segs_ok k) rfl ?_
  intro tvs blks res h
  simp only [ct_api_Col_44] at h
  split at h
  · exact (api_Col_44.ev.trans api_Col_44.c_bind).trans h
  · simp at h

/-! ### schema_Same: function 17 -/
abbrev G_schema_Same : Type := ByteArray → Int → (List D_api_Col) → ByteArray → Int → (List D_api_Col) → Option Bool
def ct_schema_Same (g : G_schema_Same) : Ct where
  nin := 0
  mv := []
  F := fun tvs blks {β} K => match tvs, blks with
    | [.v (.agg [(.d .str a0), (.d (.int .i64) a1), (.d (.sl (.pair .str (.pair (.int .i64) (.pair .bool (.pair (.pair (.int .i64) (.pair (.int .i64) (.pair (.int .u64) (.pair .str .unit)))) .unit))))) a2)]), .v (.agg [(.d .str a3), (.d (.int .i64) a4), (.d (.sl (.pair .str (.pair (.int .i64) (.pair .bool (.pair (.pair (.int .i64) (.pair (.int .i64) (.pair (.int .u64) (.pair .str .unit)))) .unit))))) a5)])], [] => (g a0 a1 a2 a3 a4 a5).bind fun r => K ⟨.v (.one (.d .bool r)), []⟩
    | _, _ => none
  legit := fun tvs blks K r h => by
    split at h
    · obtain ⟨x, hx, hk⟩ := Option.bind_eq_some_iff.1 h
      refine ⟨_, ?_, hk⟩
      simp only [hx, Option.bind_some]
    · simp at h
noncomputable def env_schema_Same (g44 : G_api_Col_44)  : FEnv := { P := Go.Proofs.Tryd.prog, ct := fun m => if m = 44 then some (ct_api_Col_44 g44) else none, N := 24, body := Go.Proofs.Tryd.f17.body.getD .skip, rvs := [.tmp 4], rts := [4], nin := 0, rmv := [], segs := [] }
def schema_Same.c {β : Type} (g44 : G_api_Col_44)  (a0 : ByteArray) (a1 : Int) (a2 : List D_api_Col) (a3 : ByteArray) (a4 : Int) (a5 : List D_api_Col) (ret : Bool → Option β) : Option β := (bif ((ByteArray.toList a0) == (ByteArray.toList a3)) then (bif (a1 == a4) then ((g44 a2 a5).bind fun r0 => (ret (r0))) else (ret (false))) else (ret (false)))
theorem schema_Same.c_bind {β : Type} {g44 : G_api_Col_44}  {a0 : ByteArray} {a1 : Int} {a2 : List D_api_Col} {a3 : ByteArray} {a4 : Int} {a5 : List D_api_Col} {ret : Bool → Option β} : schema_Same.c g44  a0 a1 a2 a3 a4 a5 ret = (schema_Same.c g44  a0 a1 a2 a3 a4 a5 some).bind ret := by
  simp only [schema_Same.c, bif_bind, sum_bind, Option.bind_assoc, Option.bind_some, Option.bind_none, Option.bind_fun_some]
theorem schema_Same.ev {g44 : G_api_Col_44}  {a0 : ByteArray} {a1 : Int} {a2 : List D_api_Col} {a3 : ByteArray} {a4 : Int} {a5 : List D_api_Col} : evAt (env_schema_Same g44 ) [] [0, 1] [.v (.agg [(.d .str a0), (.d (.int .i64) a1), (.d (.sl T_api_Col) a2)]), .v (.agg [(.d .str a3), (.d (.int .i64) a4), (.d (.sl T_api_Col) a5)])] [] some = schema_Same.c g44  a0 a1 a2 a3 a4 a5 (fun r => some ⟨.v (.one (.d .bool r)), []⟩) := by
  kernel_rfl
def schema_Same.f (k : Nat) (a0 : ByteArray) (a1 : Int) (a2 : List D_api_Col) (a3 : ByteArray) (a4 : Int) (a5 : List D_api_Col) : Option Bool := schema_Same.c (api_Col_44.f k)  a0 a1 a2 a3 a4 a5 some
theorem schema_Same.is {g44 : G_api_Col_44}  : FnIs (env_schema_Same g44 ) 17 Go.Proofs.Tryd.f17 := ⟨Go.Proofs.Tryd.func17, rfl, rfl, rfl, by decide⟩
theorem schema_Same.envok {g44 : G_api_Col_44}  (h44 : CtOK Go.Proofs.Tryd.prog 44 (ct_api_Col_44 g44)) : EnvOK (env_schema_Same g44 ).toEnv := by
  intro f c h
  simp only [env_schema_Same] at h
  split at h
  · rename_i e; subst e; cases h; exact h44
  simp at h
noncomputable abbrev schema_Same.E (k : Nat) : FEnv := env_schema_Same (api_Col_44.f k) 
theorem schema_Same.hE (k : Nat) : EnvOK (schema_Same.E k).toEnv := schema_Same.envok (api_Col_44.ok k)
theorem schema_Same.ok (k : Nat) : CtOK Go.Proofs.Tryd.prog 17 (ct_schema_Same (schema_Same.f k)) := by
  refine ct_of_ev (E := schema_Same.E k) schema_Same.is (schema_Same.hE k) (fun s hs => by simp [schema_Same.E, env_schema_Same] at hs) rfl ?_
  intro tvs blks res h
  simp only [ct_schema_Same] at h
  split at h
  · exact (schema_Same.ev.trans schema_Same.c_bind).trans h
  · simp at h

/-! ### keycode_Row: function 20 -/
abbrev G_keycode_Row : Type := (List D_api_Value) → Option (ByteArray × Int)
def ct_keycode_Row (g : G_keycode_Row) : Ct where
  nin := 0
  mv := []
  F := fun tvs blks {β} K => match tvs, blks with
    | [.v (.one (.d (.sl (.pair (.int .i64) (.pair (.int .i64) (.pair (.int .u64) (.pair .str .unit))))) a0))], [] => (g a0).bind fun r => K ⟨.tup [(.one (.d .str r.1)), (.one (.d (.int .i64) r.2))], []⟩
    | _, _ => none
  legit := fun tvs blks K r h => by
    split at h
    · obtain ⟨x, hx, hk⟩ := Option.bind_eq_some_iff.1 h
      refine ⟨_, ?_, hk⟩
      simp only [hx, Option.bind_some]
    · simp at h
abbrev S_keycode_Row_0 : Type := (List D_api_Value) → Int → Int → (List Int) → Option (ByteArray × Int)
def seg_keycode_Row_0 (g : S_keycode_Row_0) : Seg where
  path := [4, 1, 0, 1, 1]
  prep := [.own 4 (.int .u8)]
  keep := [4, 8, 9, 10]
  F := fun tvs blks {β} K => match tvs, blks with
    | [.v (.one (.own 0)), .v (.one (.d (.sl (.pair (.int .i64) (.pair (.int .i64) (.pair (.int .u64) (.pair .str .unit))))) x0)), .v (.one (.d (.int .i64) x1)), .v (.one (.d (.int .i64) x2))], [some (.own (.int .u8) false x3)] => (g x0 x1 x2 x3).bind fun r => K ⟨.tup [(.one (.d .str r.1)), (.one (.d (.int .i64) r.2))], []⟩
    | _, _ => none
  legit := fun tvs blks K r h => by
    split at h
    · obtain ⟨x, hx, hk⟩ := Option.bind_eq_some_iff.1 h
      refine ⟨_, ?_, hk⟩
      simp only [hx, Option.bind_some]
    · simp at h
noncomputable def env_keycode_Row (g45 : G_values_Check) (g46 : G_keycode_put) (s0 : S_keycode_Row_0) : FEnv := { P := Go.Proofs.Tryd.prog, ct := fun m => if m = 45 then some (ct_values_Check g45) else if m = 46 then some (ct_keycode_put g46) else none, N := 25, body := Go.Proofs.Tryd.f20.body.getD .skip, rvs := [.tmp 2, .tmp 3], rts := [9, 27], nin := 0, rmv := [], segs := [seg_keycode_Row_0 s0] }
def keycode_Row.c {β : Type} (g45 : G_values_Check) (g46 : G_keycode_put) (s0 : S_keycode_Row_0) (a0 : List D_api_Value) (ret : (ByteArray × Int) → Option β) : Option β := ((s0 a0 ((List.length a0) : Int) (0 : Int) []).bind ret)
def keycode_Row.s0c {β : Type} (g45 : G_values_Check) (g46 : G_keycode_put) (s0 : S_keycode_Row_0) (x0 : List D_api_Value) (x1 : Int) (x2 : Int) (x3 : List Int) (ret : (ByteArray × Int) → Option β) : Option β := (bif (decide (x2 < x1)) then (bif ((decide ((0 : Int) ≤ x2)) && (decide (x2 < ((List.length x0) : Int)))) then ((g45 (elem T_api_Value x0 x2).1 (elem T_api_Value x0 x2).2.1 (elem T_api_Value x0 x2).2.2.1 (elem T_api_Value x0 x2).2.2.2.1).bind fun r0 => (bif (r0 != (0 : Int)) then (ret ((ByteArray.mk (List.toArray [])), r0)) else ((g46 (elem T_api_Value x0 x2).1 (elem T_api_Value x0 x2).2.1 (elem T_api_Value x0 x2).2.2.1 (elem T_api_Value x0 x2).2.2.2.1 x3).bind fun r1 => ((s0 x0 x1 (IntKind.wrap IntKind.i64 (x2 + (1 : Int))) r1).bind ret)))) else none) else (ret ((ByteArray.mk (List.toArray (List.map (fun n => (UInt8.ofNat (Int.toNat n))) x3))), (0 : Int))))
theorem keycode_Row.c_bind {β : Type} {g45 : G_values_Check} {g46 : G_keycode_put} {s0 : S_keycode_Row_0} {a0 : List D_api_Value} {ret : (ByteArray × Int) → Option β} : keycode_Row.c g45 g46 s0 a0 ret = (keycode_Row.c g45 g46 s0 a0 some).bind ret := by
  simp only [keycode_Row.c, bif_bind, sum_bind, Option.bind_assoc, Option.bind_some, Option.bind_none, Option.bind_fun_some]
theorem keycode_Row.s0c_bind {β : Type} {g45 : G_values_Check} {g46 : G_keycode_put} {s0 : S_keycode_Row_0} {x0 : List D_api_Value} {x1 : Int} {x2 : Int} {x3 : List Int} {ret : (ByteArray × Int) → Option β} : keycode_Row.s0c g45 g46 s0 x0 x1 x2 x3 ret = (keycode_Row.s0c g45 g46 s0 x0 x1 x2 x3 some).bind ret := by
  simp only [keycode_Row.s0c, bif_bind, sum_bind, Option.bind_assoc, Option.bind_some, Option.bind_none, Option.bind_fun_some]
theorem keycode_Row.ev {g45 : G_values_Check} {g46 : G_keycode_put} {s0 : S_keycode_Row_0} {a0 : List D_api_Value} : evAt (env_keycode_Row g45 g46 s0) [] [0] [.v (.one (.d (.sl T_api_Value) a0))] [] some = keycode_Row.c g45 g46 s0 a0 (fun r => some ⟨.tup [(.one (.d .str r.1)), (.one (.d (.int .i64) r.2))], []⟩) := by
  kernel_rfl
theorem keycode_Row.s0_ev {g45 : G_values_Check} {g46 : G_keycode_put} {s0 : S_keycode_Row_0} {x0 : List D_api_Value} {x1 : Int} {x2 : Int} {x3 : List Int} : evAt (env_keycode_Row g45 g46 s0) [4, 1, 0, 1, 1] [4, 8, 9, 10] [.v (.one (.own 0)), .v (.one (.d (.sl T_api_Value) x0)), .v (.one (.d (.int .i64) x1)), .v (.one (.d (.int .i64) x2))] [some (.own (.int .u8) false x3)] some = keycode_Row.s0c g45 g46 s0 x0 x1 x2 x3 (fun r => some ⟨.tup [(.one (.d .str r.1)), (.one (.d (.int .i64) r.2))], []⟩) := by
  kernel_rfl
def keycode_Row.s0 : Nat → (List D_api_Value) → Int → Int → (List Int) → Option (ByteArray × Int)
  | 0, _, _, _, _ => none
  | k + 1, x0, x1, x2, x3 => keycode_Row.s0c (values_Check.f k) (keycode_put.f k) (keycode_Row.s0 k) x0 x1 x2 x3 some
def keycode_Row.f (k : Nat) (a0 : List D_api_Value) : Option (ByteArray × Int) := keycode_Row.c (values_Check.f k) (keycode_put.f k) (keycode_Row.s0 k) a0 some
theorem keycode_Row.is {g45 : G_values_Check} {g46 : G_keycode_put} {s0 : S_keycode_Row_0} : FnIs (env_keycode_Row g45 g46 s0) 20 Go.Proofs.Tryd.f20 := ⟨Go.Proofs.Tryd.func20, rfl, rfl, rfl, by decide⟩
theorem keycode_Row.envok {g45 : G_values_Check} {g46 : G_keycode_put} {s0 : S_keycode_Row_0} (h45 : CtOK Go.Proofs.Tryd.prog 45 (ct_values_Check g45)) (h46 : CtOK Go.Proofs.Tryd.prog 46 (ct_keycode_put g46)) : EnvOK (env_keycode_Row g45 g46 s0).toEnv := by
  intro f c h
  simp only [env_keycode_Row] at h
  split at h
  · rename_i e; subst e; cases h; exact h45
  split at h
  · rename_i e; subst e; cases h; exact h46
  simp at h
noncomputable abbrev keycode_Row.E (k : Nat) : FEnv := env_keycode_Row (values_Check.f k) (keycode_put.f k) (keycode_Row.s0 k)
theorem keycode_Row.hE (k : Nat) : EnvOK (keycode_Row.E k).toEnv := keycode_Row.envok (values_Check.ok k) (keycode_put.ok k)
theorem keycode_Row.segs_ok : ∀ k, ∀ s ∈ (keycode_Row.E k).segs, SegOK (keycode_Row.E k) Go.Proofs.Tryd.f20 s
  | 0 => by
    intro s hs
    simp only [keycode_Row.E, env_keycode_Row, List.mem_cons, List.not_mem_nil, or_false] at hs
    rcases hs with rfl
    · intro tvs blks res h; exfalso; simp only [seg_keycode_Row_0] at h; split at h <;> simp [keycode_Row.s0] at h
  | k + 1 => by
    intro s hs
    simp only [keycode_Row.E, env_keycode_Row, List.mem_cons, List.not_mem_nil, or_false] at hs
    rcases hs with rfl
    · refine seg_of_ev (E := keycode_Row.E k) (keycode_Row.hE k) ⟨keycode_Row.is.rvs⟩ (keycode_Row.segs_ok k) ?_
      intro tvs blks res h
      simp only [seg_keycode_Row_0] at h
      split at h
      · exact (keycode_Row.s0_ev.trans keycode_Row.s0c_bind).trans h
      · simp at h
theorem keycode_Row.ok (k : Nat) : CtOK Go.Proofs.Tryd.prog 20 (ct_keycode_Row (keycode_Row.f k)) := by
  refine ct_of_ev (E := keycode_Row.E k) keycode_Row.is (keycode_Row.hE k) (keycode_Row.segs_ok k) rfl ?_
  intro tvs blks res h
  simp only [ct_keycode_Row] at h
  split at h
  · exact (keycode_Row.ev.trans keycode_Row.c_bind).trans h
  · simp at h

/-! ### schema_fits: function 47 -/
abbrev G_schema_fits : Type := ByteArray → Int → (List D_api_Col) → (List D_api_Value) → Option Int
def ct_schema_fits (g : G_schema_fits) : Ct where
  nin := 0
  mv := []
  F := fun tvs blks {β} K => match tvs, blks with
    | [.v (.agg [(.d .str a0), (.d (.int .i64) a1), (.d (.sl (.pair .str (.pair (.int .i64) (.pair .bool (.pair (.pair (.int .i64) (.pair (.int .i64) (.pair (.int .u64) (.pair .str .unit)))) .unit))))) a2)]), .v (.one (.d (.sl (.pair (.int .i64) (.pair (.int .i64) (.pair (.int .u64) (.pair .str .unit))))) a3))], [] => (g a0 a1 a2 a3).bind fun r => K ⟨.v (.one (.d (.int .i64) r)), []⟩
    | _, _ => none
  legit := fun tvs blks K r h => by
    split at h
    · obtain ⟨x, hx, hk⟩ := Option.bind_eq_some_iff.1 h
      refine ⟨_, ?_, hk⟩
      simp only [hx, Option.bind_some]
    · simp at h
abbrev S_schema_fits_0 : Type := (List D_api_Value) → Int → Int → ByteArray → Int → (List D_api_Col) → Option Int
abbrev S_schema_fits_1 : Type := (List D_api_Value) → Int → Int → Bool → ByteArray → Int → (List D_api_Col) → Option Int
abbrev S_schema_fits_2 : Type := (List D_api_Value) → Int → Int → ByteArray → Int → (List D_api_Col) → Option Int
def seg_schema_fits_0 (g : S_schema_fits_0) : Seg where
  path := [4, 1, 0, 1]
  prep := []
  keep := [2, 9, 10, 11]
  F := fun tvs blks {β} K => match tvs, blks with
    | [.v (.one (.ptr 0 0)), .v (.one (.d (.sl (.pair (.int .i64) (.pair (.int .i64) (.pair (.int .u64) (.pair .str .unit))))) x0)), .v (.one (.d (.int .i64) x1)), .v (.one (.d (.int .i64) x2))], [some (.box [(.d .str x3), (.d (.int .i64) x4), (.d (.sl (.pair .str (.pair (.int .i64) (.pair .bool (.pair (.pair (.int .i64) (.pair (.int .i64) (.pair (.int .u64) (.pair .str .unit)))) .unit))))) x5)])] => (g x0 x1 x2 x3 x4 x5).bind fun r => K ⟨.v (.one (.d (.int .i64) r)), []⟩
    | _, _ => none
  legit := fun tvs blks K r h => by
    split at h
    · obtain ⟨x, hx, hk⟩ := Option.bind_eq_some_iff.1 h
      refine ⟨_, ?_, hk⟩
      simp only [hx, Option.bind_some]
    · simp at h
def seg_schema_fits_1 (g : S_schema_fits_1) : Seg where
  path := [1, 1, 1, 1, 4, 0, 1, 1, 5, 4, 1, 0, 1]
  prep := []
  keep := [2, 9, 10, 11, 40]
  F := fun tvs blks {β} K => match tvs, blks with
    | [.v (.one (.ptr 0 0)), .v (.one (.d (.sl (.pair (.int .i64) (.pair (.int .i64) (.pair (.int .u64) (.pair .str .unit))))) x0)), .v (.one (.d (.int .i64) x1)), .v (.one (.d (.int .i64) x2)), .v (.one (.d .bool x3))], [some (.box [(.d .str x4), (.d (.int .i64) x5), (.d (.sl (.pair .str (.pair (.int .i64) (.pair .bool (.pair (.pair (.int .i64) (.pair (.int .i64) (.pair (.int .u64) (.pair .str .unit)))) .unit))))) x6)])] => (g x0 x1 x2 x3 x4 x5 x6).bind fun r => K ⟨.v (.one (.d (.int .i64) r)), []⟩
    | _, _ => none
  legit := fun tvs blks K r h => by
    split at h
    · obtain ⟨x, hx, hk⟩ := Option.bind_eq_some_iff.1 h
      refine ⟨_, ?_, hk⟩
      simp only [hx, Option.bind_some]
    · simp at h
def seg_schema_fits_2 (g : S_schema_fits_2) : Seg where
  path := [1, 1, 1, 5, 4, 1, 0, 1]
  prep := []
  keep := [2, 9, 10, 11]
  F := fun tvs blks {β} K => match tvs, blks with
    | [.v (.one (.ptr 0 0)), .v (.one (.d (.sl (.pair (.int .i64) (.pair (.int .i64) (.pair (.int .u64) (.pair .str .unit))))) x0)), .v (.one (.d (.int .i64) x1)), .v (.one (.d (.int .i64) x2))], [some (.box [(.d .str x3), (.d (.int .i64) x4), (.d (.sl (.pair .str (.pair (.int .i64) (.pair .bool (.pair (.pair (.int .i64) (.pair (.int .i64) (.pair (.int .u64) (.pair .str .unit)))) .unit))))) x5)])] => (g x0 x1 x2 x3 x4 x5).bind fun r => K ⟨.v (.one (.d (.int .i64) r)), []⟩
    | _, _ => none
  legit := fun tvs blks K r h => by
    split at h
    · obtain ⟨x, hx, hk⟩ := Option.bind_eq_some_iff.1 h
      refine ⟨_, ?_, hk⟩
      simp only [hx, Option.bind_some]
    · simp at h
noncomputable def env_schema_fits (g45 : G_values_Check) (s0 : S_schema_fits_0) (s1 : S_schema_fits_1) (s2 : S_schema_fits_2) : FEnv := { P := Go.Proofs.Tryd.prog, ct := fun m => if m = 45 then some (ct_values_Check g45) else none, N := 42, body := Go.Proofs.Tryd.f47.body.getD .skip, rvs := [.tmp 4], rts := [27], nin := 0, rmv := [], segs := [seg_schema_fits_0 s0, seg_schema_fits_1 s1, seg_schema_fits_2 s2] }
def schema_fits.c {β : Type} (g45 : G_values_Check) (s0 : S_schema_fits_0) (s1 : S_schema_fits_1) (s2 : S_schema_fits_2) (a0 : ByteArray) (a1 : Int) (a2 : List D_api_Col) (a3 : List D_api_Value) (ret : Int → Option β) : Option β := ((s0 a3 ((List.length a3) : Int) (0 : Int) a0 a1 a2).bind ret)
def schema_fits.s0c {β : Type} (g45 : G_values_Check) (s0 : S_schema_fits_0) (s1 : S_schema_fits_1) (s2 : S_schema_fits_2) (x0 : List D_api_Value) (x1 : Int) (x2 : Int) (x3 : ByteArray) (x4 : Int) (x5 : List D_api_Col) (ret : Int → Option β) : Option β := (bif (decide (x2 < x1)) then (bif ((decide ((0 : Int) ≤ x2)) && (decide (x2 < ((List.length x0) : Int)))) then ((g45 (elem T_api_Value x0 x2).1 (elem T_api_Value x0 x2).2.1 (elem T_api_Value x0 x2).2.2.1 (elem T_api_Value x0 x2).2.2.2.1).bind fun r0 => (bif (r0 != (0 : Int)) then (ret (r0)) else (bif ((decide ((0 : Int) ≤ x2)) && (decide (x2 < ((List.length x5) : Int)))) then (bif ((elem T_api_Value x0 x2).1 != (elem T_api_Col x5 x2).2.1) then (bif ((elem T_api_Value x0 x2).1 != (0 : Int)) then ((s1 x0 x1 x2 true x3 x4 x5).bind ret) else ((s1 x0 x1 x2 (!(elem T_api_Col x5 x2).2.2.1) x3 x4 x5).bind ret)) else ((s1 x0 x1 x2 false x3 x4 x5).bind ret)) else none))) else none) else (ret ((0 : Int))))
def schema_fits.s1c {β : Type} (g45 : G_values_Check) (s0 : S_schema_fits_0) (s1 : S_schema_fits_1) (s2 : S_schema_fits_2) (x0 : List D_api_Value) (x1 : Int) (x2 : Int) (x3 : Bool) (x4 : ByteArray) (x5 : Int) (x6 : List D_api_Col) (ret : Int → Option β) : Option β := (bif x3 then (ret ((11 : Int))) else ((s2 x0 x1 x2 x4 x5 x6).bind ret))
def schema_fits.s2c {β : Type} (g45 : G_values_Check) (s0 : S_schema_fits_0) (s1 : S_schema_fits_1) (s2 : S_schema_fits_2) (x0 : List D_api_Value) (x1 : Int) (x2 : Int) (x3 : ByteArray) (x4 : Int) (x5 : List D_api_Col) (ret : Int → Option β) : Option β := ((s0 x0 x1 (IntKind.wrap IntKind.i64 (x2 + (1 : Int))) x3 x4 x5).bind ret)
theorem schema_fits.c_bind {β : Type} {g45 : G_values_Check} {s0 : S_schema_fits_0} {s1 : S_schema_fits_1} {s2 : S_schema_fits_2} {a0 : ByteArray} {a1 : Int} {a2 : List D_api_Col} {a3 : List D_api_Value} {ret : Int → Option β} : schema_fits.c g45 s0 s1 s2 a0 a1 a2 a3 ret = (schema_fits.c g45 s0 s1 s2 a0 a1 a2 a3 some).bind ret := by
  simp only [schema_fits.c, bif_bind, sum_bind, Option.bind_assoc, Option.bind_some, Option.bind_none, Option.bind_fun_some]
theorem schema_fits.s0c_bind {β : Type} {g45 : G_values_Check} {s0 : S_schema_fits_0} {s1 : S_schema_fits_1} {s2 : S_schema_fits_2} {x0 : List D_api_Value} {x1 : Int} {x2 : Int} {x3 : ByteArray} {x4 : Int} {x5 : List D_api_Col} {ret : Int → Option β} : schema_fits.s0c g45 s0 s1 s2 x0 x1 x2 x3 x4 x5 ret = (schema_fits.s0c g45 s0 s1 s2 x0 x1 x2 x3 x4 x5 some).bind ret := by
  simp only [schema_fits.s0c, bif_bind, sum_bind, Option.bind_assoc, Option.bind_some, Option.bind_none, Option.bind_fun_some]
theorem schema_fits.s1c_bind {β : Type} {g45 : G_values_Check} {s0 : S_schema_fits_0} {s1 : S_schema_fits_1} {s2 : S_schema_fits_2} {x0 : List D_api_Value} {x1 : Int} {x2 : Int} {x3 : Bool} {x4 : ByteArray} {x5 : Int} {x6 : List D_api_Col} {ret : Int → Option β} : schema_fits.s1c g45 s0 s1 s2 x0 x1 x2 x3 x4 x5 x6 ret = (schema_fits.s1c g45 s0 s1 s2 x0 x1 x2 x3 x4 x5 x6 some).bind ret := by
  simp only [schema_fits.s1c, bif_bind, sum_bind, Option.bind_assoc, Option.bind_some, Option.bind_none, Option.bind_fun_some]
theorem schema_fits.s2c_bind {β : Type} {g45 : G_values_Check} {s0 : S_schema_fits_0} {s1 : S_schema_fits_1} {s2 : S_schema_fits_2} {x0 : List D_api_Value} {x1 : Int} {x2 : Int} {x3 : ByteArray} {x4 : Int} {x5 : List D_api_Col} {ret : Int → Option β} : schema_fits.s2c g45 s0 s1 s2 x0 x1 x2 x3 x4 x5 ret = (schema_fits.s2c g45 s0 s1 s2 x0 x1 x2 x3 x4 x5 some).bind ret := by
  simp only [schema_fits.s2c, bif_bind, sum_bind, Option.bind_assoc, Option.bind_some, Option.bind_none, Option.bind_fun_some]
theorem schema_fits.ev {g45 : G_values_Check} {s0 : S_schema_fits_0} {s1 : S_schema_fits_1} {s2 : S_schema_fits_2} {a0 : ByteArray} {a1 : Int} {a2 : List D_api_Col} {a3 : List D_api_Value} : evAt (env_schema_fits g45 s0 s1 s2) [] [0, 1] [.v (.agg [(.d .str a0), (.d (.int .i64) a1), (.d (.sl T_api_Col) a2)]), .v (.one (.d (.sl T_api_Value) a3))] [] some = schema_fits.c g45 s0 s1 s2 a0 a1 a2 a3 (fun r => some ⟨.v (.one (.d (.int .i64) r)), []⟩) := by
  kernel_rfl
theorem schema_fits.s0_ev {g45 : G_values_Check} {s0 : S_schema_fits_0} {s1 : S_schema_fits_1} {s2 : S_schema_fits_2} {x0 : List D_api_Value} {x1 : Int} {x2 : Int} {x3 : ByteArray} {x4 : Int} {x5 : List D_api_Col} : evAt (env_schema_fits g45 s0 s1 s2) [4, 1, 0, 1] [2, 9, 10, 11] [.v (.one (.ptr 0 0)), .v (.one (.d (.sl T_api_Value) x0)), .v (.one (.d (.int .i64) x1)), .v (.one (.d (.int .i64) x2))] [some (.box [(.d .str x3), (.d (.int .i64) x4), (.d (.sl T_api_Col) x5)])] some = schema_fits.s0c g45 s0 s1 s2 x0 x1 x2 x3 x4 x5 (fun r => some ⟨.v (.one (.d (.int .i64) r)), []⟩) := by
  kernel_rfl
theorem schema_fits.s1_ev {g45 : G_values_Check} {s0 : S_schema_fits_0} {s1 : S_schema_fits_1} {s2 : S_schema_fits_2} {x0 : List D_api_Value} {x1 : Int} {x2 : Int} {x3 : Bool} {x4 : ByteArray} {x5 : Int} {x6 : List D_api_Col} : evAt (env_schema_fits g45 s0 s1 s2) [1, 1, 1, 1, 4, 0, 1, 1, 5, 4, 1, 0, 1] [2, 9, 10, 11, 40] [.v (.one (.ptr 0 0)), .v (.one (.d (.sl T_api_Value) x0)), .v (.one (.d (.int .i64) x1)), .v (.one (.d (.int .i64) x2)), .v (.one (.d .bool x3))] [some (.box [(.d .str x4), (.d (.int .i64) x5), (.d (.sl T_api_Col) x6)])] some = schema_fits.s1c g45 s0 s1 s2 x0 x1 x2 x3 x4 x5 x6 (fun r => some ⟨.v (.one (.d (.int .i64) r)), []⟩) := by
  kernel_rfl
theorem schema_fits.s2_ev {g45 : G_values_Check} {s0 : S_schema_fits_0} {s1 : S_schema_fits_1} {s2 : S_schema_fits_2} {x0 : List D_api_Value} {x1 : Int} {x2 : Int} {x3 : ByteArray} {x4 : Int} {x5 : List D_api_Col} : evAt (env_schema_fits g45 s0 s1 s2) [1, 1, 1, 5, 4, 1, 0, 1] [2, 9, 10, 11] [.v (.one (.ptr 0 0)), .v (.one (.d (.sl T_api_Value) x0)), .v (.one (.d (.int .i64) x1)), .v (.one (.d (.int .i64) x2))] [some (.box [(.d .str x3), (.d (.int .i64) x4), (.d (.sl T_api_Col) x5)])] some = schema_fits.s2c g45 s0 s1 s2 x0 x1 x2 x3 x4 x5 (fun r => some ⟨.v (.one (.d (.int .i64) r)), []⟩) := by
  kernel_rfl
mutual
def schema_fits.s0 : Nat → (List D_api_Value) → Int → Int → ByteArray → Int → (List D_api_Col) → Option Int
  | 0, _, _, _, _, _, _ => none
  | k + 1, x0, x1, x2, x3, x4, x5 => schema_fits.s0c (values_Check.f k) (schema_fits.s0 k) (schema_fits.s1 k) (schema_fits.s2 k) x0 x1 x2 x3 x4 x5 some
def schema_fits.s1 : Nat → (List D_api_Value) → Int → Int → Bool → ByteArray → Int → (List D_api_Col) → Option Int
  | 0, _, _, _, _, _, _, _ => none
  | k + 1, x0, x1, x2, x3, x4, x5, x6 => schema_fits.s1c (values_Check.f k) (schema_fits.s0 k) (schema_fits.s1 k) (schema_fits.s2 k) x0 x1 x2 x3 x4 x5 x6 some
def schema_fits.s2 : Nat → (List D_api_Value) → Int → Int → ByteArray → Int → (List D_api_Col) → Option Int
  | 0, _, _, _, _, _, _ => none
  | k + 1, x0, x1, x2, x3, x4, x5 => schema_fits.s2c (values_Check.f k) (schema_fits.s0 k) (schema_fits.s1 k) (schema_fits.s2 k) x0 x1 x2 x3 x4 x5 some
end
def schema_fits.f (k : Nat) (a0 : ByteArray) (a1 : Int) (a2 : List D_api_Col) (a3 : List D_api_Value) : Option Int := schema_fits.c (values_Check.f k) (schema_fits.s0 k) (schema_fits.s1 k) (schema_fits.s2 k) a0 a1 a2 a3 some
theorem schema_fits.is {g45 : G_values_Check} {s0 : S_schema_fits_0} {s1 : S_schema_fits_1} {s2 : S_schema_fits_2} : FnIs (env_schema_fits g45 s0 s1 s2) 47 Go.Proofs.Tryd.f47 := ⟨Go.Proofs.Tryd.func47, rfl, rfl, rfl, by decide⟩
theorem schema_fits.envok {g45 : G_values_Check} {s0 : S_schema_fits_0} {s1 : S_schema_fits_1} {s2 : S_schema_fits_2} (h45 : CtOK Go.Proofs.Tryd.prog 45 (ct_values_Check g45)) : EnvOK (env_schema_fits g45 s0 s1 s2).toEnv := by
  intro f c h
  simp only [env_schema_fits] at h
  split at h
  · rename_i e; subst e; cases h; exact h45
  simp at h
noncomputable abbrev schema_fits.E (k : Nat) : FEnv := env_schema_fits (values_Check.f k) (schema_fits.s0 k) (schema_fits.s1 k) (schema_fits.s2 k)
theorem schema_fits.hE (k : Nat) : EnvOK (schema_fits.E k).toEnv := schema_fits.envok (values_Check.ok k)
theorem schema_fits.segs_ok : ∀ k, ∀ s ∈ (schema_fits.E k).segs, SegOK (schema_fits.E k) Go.Proofs.Tryd.f47 s
  | 0 => by
    intro s hs
    simp only [schema_fits.E, env_schema_fits, List.mem_cons, List.not_mem_nil, or_false] at hs
    rcases hs with rfl | rfl | rfl
    · intro tvs blks res h; exfalso; simp only [seg_schema_fits_0] at h; split at h <;> simp [schema_fits.s0] at h
    · intro tvs blks res h; exfalso; simp only [seg_schema_fits_1] at h; split at h <;> simp [schema_fits.s1] at h
    · intro tvs blks res h; exfalso; simp only [seg_schema_fits_2] at h; split at h <;> simp [schema_fits.s2] at h
  | k + 1 => by
    intro s hs
    simp only [schema_fits.E, env_schema_fits, List.mem_cons, List.not_mem_nil, or_false] at hs
    rcases hs with rfl | rfl | rfl
    · refine seg_of_ev (E := schema_fits.E k) (schema_fits.hE k) ⟨schema_fits.is.rvs⟩ (schema_fits.segs_ok k) ?_
      intro tvs blks res h
      simp only [seg_schema_fits_0] at h
      split at h
      · exact (schema_fits.s0_ev.trans schema_fits.s0c_bind).trans h
      · simp at h
    · refine seg_of_ev (E := schema_fits.E k) (schema_fits.hE k) ⟨schema_fits.is.rvs⟩ (schema_fits.segs_ok k) ?_
      intro tvs blks res h
      simp only [seg_schema_fits_1] at h
      split at h
      · exact (schema_fits.s1_ev.trans schema_fits.s1c_bind).trans h
      · simp at h
    · refine seg_of_ev (E := schema_fits.E k) (schema_fits.hE k) ⟨schema_fits.is.rvs⟩ (schema_fits.segs_ok k) ?_
      intro tvs blks res h
      simp only [seg_schema_fits_2] at h
      split at h
      · exact (schema_fits.s2_ev.trans schema_fits.s2c_bind).trans h
      · simp at h
theorem schema_fits.ok (k : Nat) : CtOK Go.Proofs.Tryd.prog 47 (ct_schema_fits (schema_fits.f k)) := by
  refine ct_of_ev (E := schema_fits.E k) schema_fits.is (schema_fits.hE k) (schema_fits.segs_ok k) rfl ?_
  intro tvs blks res h
  simp only [ct_schema_fits] at h
  split at h
  · exact (schema_fits.ev.trans schema_fits.c_bind).trans h
  · simp at h
end Go.Proofs.YtddlebbjaadbeaaDoor.Aev
