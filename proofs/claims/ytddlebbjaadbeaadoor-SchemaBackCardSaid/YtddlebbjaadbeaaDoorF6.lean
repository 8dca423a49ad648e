/- By a program of this session (AEV): functions of the program as plain functions, and that the machine does what they say. -/
import Derived.Test.YtddlebbjaadbeaaDoorTys
import Derived.Test.YtddlebbjaadbeaaDoorProg
import Derived.Laws.Externs
import Derived.Lib.Bytealg
import Derived.Test.YtddlebbjaadbeaaDoorF4
import Derived.Test.YtddlebbjaadbeaaDoorF5
namespace Go.Proofs.YtddlebbjaadbeaaDoor.Aev
set_option linter.unusedVariables false
set_option linter.unusedSimpArgs false
set_option maxRecDepth 100000
set_option maxHeartbeats 4000000
open Go
/-! ### schema_Put: function 14 -/
abbrev G_schema_Put : Type := ByteArray → Int → (List D_api_Col) → Option (ByteArray × Int)
def ct_schema_Put (g : G_schema_Put) : Ct where
  nin := 0
  mv := []
  F := fun tvs blks {β} K => match tvs, blks with
    | [.v (.agg [(.d .str a0), (.d (.int .i64) a1), (.d (.sl (.pair .str (.pair (.int .i64) (.pair .bool (.pair (.pair (.int .i64) (.pair (.int .i64) (.pair (.int .u64) (.pair .str .unit)))) .unit))))) a2)])], [] => (g a0 a1 a2).bind fun r => K ⟨.tup [(.one (.d .str r.1)), (.one (.d (.int .i64) r.2))], []⟩
    | _, _ => none
  legit := fun tvs blks K r h => by
    split at h
    · obtain ⟨x, hx, hk⟩ := Option.bind_eq_some_iff.1 h
      refine ⟨_, ?_, hk⟩
      simp only [hx, Option.bind_some]
    · simp at h
abbrev S_schema_Put_0 : Type := ByteArray → (List D_api_Col) → Int → Int → Option (ByteArray × Int)
abbrev S_schema_Put_1 : Type := ByteArray → ByteArray → (List D_api_Col) → Int → Int → ByteArray → Int → Bool → Int → Int → Int → ByteArray → Option (ByteArray × Int)
abbrev S_schema_Put_2 : Type := ByteArray → (List D_api_Col) → Int → Int → Option (ByteArray × Int)
def seg_schema_Put_0 (g : S_schema_Put_0) : Seg where
  path := [4, 1, 0, 1, 1, 1]
  prep := []
  keep := [5, 31, 32, 33]
  F := fun tvs blks {β} K => match tvs, blks with
    | [.v (.one (.d .str x0)), .v (.one (.d (.sl (.pair .str (.pair (.int .i64) (.pair .bool (.pair (.pair (.int .i64) (.pair (.int .i64) (.pair (.int .u64) (.pair .str .unit)))) .unit))))) x1)), .v (.one (.d (.int .i64) x2)), .v (.one (.d (.int .i64) x3))], [] => (g x0 x1 x2 x3).bind fun r => K ⟨.tup [(.one (.d .str r.1)), (.one (.d (.int .i64) r.2))], []⟩
    | _, _ => none
  legit := fun tvs blks K r h => by
    split at h
    · obtain ⟨x, hx, hk⟩ := Option.bind_eq_some_iff.1 h
      refine ⟨_, ?_, hk⟩
      simp only [hx, Option.bind_some]
    · simp at h
def seg_schema_Put_1 (g : S_schema_Put_1) : Seg where
  path := [1, 1, 1, 4, 0, 1, 1, 5, 4, 1, 0, 1, 1, 1]
  prep := []
  keep := [5, 7, 8, 31, 32, 33]
  F := fun tvs blks {β} K => match tvs, blks with
    | [.v (.one (.d .str x0)), .v (.one (.ptr 0 0)), .v (.one (.d .str x1)), .v (.one (.d (.sl (.pair .str (.pair (.int .i64) (.pair .bool (.pair (.pair (.int .i64) (.pair (.int .i64) (.pair (.int .u64) (.pair .str .unit)))) .unit))))) x2)), .v (.one (.d (.int .i64) x3)), .v (.one (.d (.int .i64) x4))], [some (.box [(.d .str x5), (.d (.int .i64) x6), (.d .bool x7), (.d (.int .i64) x8), (.d (.int .i64) x9), (.d (.int .u64) x10), (.d .str x11)])] => (g x0 x1 x2 x3 x4 x5 x6 x7 x8 x9 x10 x11).bind fun r => K ⟨.tup [(.one (.d .str r.1)), (.one (.d (.int .i64) r.2))], []⟩
    | _, _ => none
  legit := fun tvs blks K r h => by
    split at h
    · obtain ⟨x, hx, hk⟩ := Option.bind_eq_some_iff.1 h
      refine ⟨_, ?_, hk⟩
      simp only [hx, Option.bind_some]
    · simp at h
def seg_schema_Put_2 (g : S_schema_Put_2) : Seg where
  path := [1, 1, 1, 5, 4, 1, 0, 1, 1, 1]
  prep := []
  keep := [5, 31, 32, 33]
  F := fun tvs blks {β} K => match tvs, blks with
    | [.v (.one (.d .str x0)), .v (.one (.d (.sl (.pair .str (.pair (.int .i64) (.pair .bool (.pair (.pair (.int .i64) (.pair (.int .i64) (.pair (.int .u64) (.pair .str .unit)))) .unit))))) x1)), .v (.one (.d (.int .i64) x2)), .v (.one (.d (.int .i64) x3))], [] => (g x0 x1 x2 x3).bind fun r => K ⟨.tup [(.one (.d .str r.1)), (.one (.d (.int .i64) r.2))], []⟩
    | _, _ => none
  legit := fun tvs blks K r h => by
    split at h
    · obtain ⟨x, hx, hk⟩ := Option.bind_eq_some_iff.1 h
      refine ⟨_, ?_, hk⟩
      simp only [hx, Option.bind_some]
    · simp at h
noncomputable def env_schema_Put (g10 : G_schema_Check) (g35 : G_pack_Text) (g36 : G_pack_Uint) (g37 : G_keycode_Put) (s0 : S_schema_Put_0) (s1 : S_schema_Put_1) (s2 : S_schema_Put_2) : FEnv := { P := Go.Proofs.Tryd.prog, ct := fun m => if m = 10 then some (ct_schema_Check g10) else if m = 35 then some (ct_pack_Text g35) else if m = 36 then some (ct_pack_Uint g36) else if m = 37 then some (ct_keycode_Put g37) else none, N := 61, body := Go.Proofs.Tryd.f14.body.getD .skip, rvs := [.tmp 2, .tmp 3], rts := [9, 27], nin := 0, rmv := [], segs := [seg_schema_Put_0 s0, seg_schema_Put_1 s1, seg_schema_Put_2 s2] }
def schema_Put.c {β : Type} (g10 : G_schema_Check) (g35 : G_pack_Text) (g36 : G_pack_Uint) (g37 : G_keycode_Put) (s0 : S_schema_Put_0) (s1 : S_schema_Put_1) (s2 : S_schema_Put_2) (a0 : ByteArray) (a1 : Int) (a2 : List D_api_Col) (ret : (ByteArray × Int) → Option β) : Option β := ((g10 a0 a1 a2).bind fun r0 => (bif (r0 != (0 : Int)) then (ret ((ByteArray.mk (List.toArray [])), r0)) else ((g35 a0).bind fun r1 => ((g36 (IntKind.wrap IntKind.u64 a1)).bind fun r2 => (bif ((decide ((ByteArray.size r1) ≤ (4611686018427387903 : Nat))) && (decide ((ByteArray.size r2) ≤ (4611686018427387903 : Nat)))) then ((g36 (IntKind.wrap IntKind.u64 ((List.length a2) : Int))).bind fun r3 => (bif ((decide ((ByteArray.size (r1 ++ r2)) ≤ (4611686018427387903 : Nat))) && (decide ((ByteArray.size r3) ≤ (4611686018427387903 : Nat)))) then ((s0 ((r1 ++ r2) ++ r3) a2 ((List.length a2) : Int) (0 : Int)).bind ret) else none)) else none)))))
def schema_Put.s0c {β : Type} (g10 : G_schema_Check) (g35 : G_pack_Text) (g36 : G_pack_Uint) (g37 : G_keycode_Put) (s0 : S_schema_Put_0) (s1 : S_schema_Put_1) (s2 : S_schema_Put_2) (x0 : ByteArray) (x1 : List D_api_Col) (x2 : Int) (x3 : Int) (ret : (ByteArray × Int) → Option β) : Option β := (bif (decide (x3 < x2)) then (bif ((decide ((0 : Int) ≤ x3)) && (decide (x3 < ((List.length x1) : Int)))) then (bif (elem T_api_Col x1 x3).2.2.1 then ((s1 x0 (ByteArray.mk (List.toArray [(1 : UInt8)])) x1 x2 x3 (elem T_api_Col x1 x3).1 (elem T_api_Col x1 x3).2.1 (elem T_api_Col x1 x3).2.2.1 (elem T_api_Col x1 x3).2.2.2.1.1 (elem T_api_Col x1 x3).2.2.2.1.2.1 (elem T_api_Col x1 x3).2.2.2.1.2.2.1 (elem T_api_Col x1 x3).2.2.2.1.2.2.2.1).bind ret) else ((s1 x0 (ByteArray.mk (List.toArray [(0 : UInt8)])) x1 x2 x3 (elem T_api_Col x1 x3).1 (elem T_api_Col x1 x3).2.1 (elem T_api_Col x1 x3).2.2.1 (elem T_api_Col x1 x3).2.2.2.1.1 (elem T_api_Col x1 x3).2.2.2.1.2.1 (elem T_api_Col x1 x3).2.2.2.1.2.2.1 (elem T_api_Col x1 x3).2.2.2.1.2.2.2.1).bind ret)) else none) else (ret (x0, (0 : Int))))
def schema_Put.s1c {β : Type} (g10 : G_schema_Check) (g35 : G_pack_Text) (g36 : G_pack_Uint) (g37 : G_keycode_Put) (s0 : S_schema_Put_0) (s1 : S_schema_Put_1) (s2 : S_schema_Put_2) (x0 : ByteArray) (x1 : ByteArray) (x2 : List D_api_Col) (x3 : Int) (x4 : Int) (x5 : ByteArray) (x6 : Int) (x7 : Bool) (x8 : Int) (x9 : Int) (x10 : Int) (x11 : ByteArray) (ret : (ByteArray × Int) → Option β) : Option β := ((g37 x8 x9 x10 x11).bind fun r0 => ((g35 x5).bind fun r1 => ((g36 (IntKind.wrap IntKind.u64 x6)).bind fun r2 => (bif ((decide ((ByteArray.size r1) ≤ (4611686018427387903 : Nat))) && (decide ((ByteArray.size r2) ≤ (4611686018427387903 : Nat)))) then (bif ((decide ((ByteArray.size (r1 ++ r2)) ≤ (4611686018427387903 : Nat))) && (decide ((ByteArray.size x1) ≤ (4611686018427387903 : Nat)))) then (bif ((decide ((ByteArray.size ((r1 ++ r2) ++ x1)) ≤ (4611686018427387903 : Nat))) && (decide ((ByteArray.size r0.1) ≤ (4611686018427387903 : Nat)))) then (bif ((decide ((ByteArray.size x0) ≤ (4611686018427387903 : Nat))) && (decide ((ByteArray.size (((r1 ++ r2) ++ x1) ++ r0.1)) ≤ (4611686018427387903 : Nat)))) then ((s2 (x0 ++ (((r1 ++ r2) ++ x1) ++ r0.1)) x2 x3 x4).bind ret) else none) else none) else none) else none))))
def schema_Put.s2c {β : Type} (g10 : G_schema_Check) (g35 : G_pack_Text) (g36 : G_pack_Uint) (g37 : G_keycode_Put) (s0 : S_schema_Put_0) (s1 : S_schema_Put_1) (s2 : S_schema_Put_2) (x0 : ByteArray) (x1 : List D_api_Col) (x2 : Int) (x3 : Int) (ret : (ByteArray × Int) → Option β) : Option β := ((s0 x0 x1 x2 (IntKind.wrap IntKind.i64 (x3 + (1 : Int)))).bind ret)
theorem schema_Put.c_bind {β : Type} {g10 : G_schema_Check} {g35 : G_pack_Text} {g36 : G_pack_Uint} {g37 : G_keycode_Put} {s0 : S_schema_Put_0} {s1 : S_schema_Put_1} {s2 : S_schema_Put_2} {a0 : ByteArray} {a1 : Int} {a2 : List D_api_Col} {ret : (ByteArray × Int) → Option β} : schema_Put.c g10 g35 g36 g37 s0 s1 s2 a0 a1 a2 ret = (schema_Put.c g10 g35 g36 g37 s0 s1 s2 a0 a1 a2 some).bind ret := by
  simp only [schema_Put.c, bif_bind, sum_bind, Option.bind_assoc, Option.bind_some, Option.bind_none, Option.bind_fun_some]
theorem schema_Put.s0c_bind {β : Type} {g10 : G_schema_Check} {g35 : G_pack_Text} {g36 : G_pack_Uint} {g37 : G_keycode_Put} {s0 : S_schema_Put_0} {s1 : S_schema_Put_1} {s2 : S_schema_Put_2} {x0 : ByteArray} {x1 : List D_api_Col} {x2 : Int} {x3 : Int} {ret : (ByteArray × Int) → Option β} : schema_Put.s0c g10 g35 g36 g37 s0 s1 s2 x0 x1 x2 x3 ret = (schema_Put.s0c g10 g35 g36 g37 s0 s1 s2 x0 x1 x2 x3 some).bind ret := by
  simp only [schema_Put.s0c, bif_bind, sum_bind, Option.bind_assoc, Option.bind_some, Option.bind_none, Option.bind_fun_some]
theorem schema_Put.s1c_bind {β : Type} {g10 : G_schema_Check} {g35 : G_pack_Text} {g36 : G_pack_Uint} {g37 : G_keycode_Put} {s0 : S_schema_Put_0} {s1 : S_schema_Put_1} {s2 : S_schema_Put_2} {x0 : ByteArray} {x1 : ByteArray} {x2 : List D_api_Col} {x3 : Int} {x4 : Int} {x5 : ByteArray} {x6 : Int} {x7 : Bool} {x8 : Int} {x9 : Int} {x10 : Int} {x11 : ByteArray} {ret : (ByteArray × Int) → Option β} : schema_Put.s1c g10 g35 g36 g37 s0 s1 s2 x0 x1 x2 x3 x4 x5 x6 x7 x8 x9 x10 x11 ret = (schema_Put.s1c g10 g35 g36 g37 s0 s1 s2 x0 x1 x2 x3 x4 x5 x6 x7 x8 x9 x10 x11 some).bind ret := by
  simp only [schema_Put.s1c, bif_bind, sum_bind, Option.bind_assoc, Option.bind_some, Option.bind_none, Option.bind_fun_some]
theorem schema_Put.s2c_bind {β : Type} {g10 : G_schema_Check} {g35 : G_pack_Text} {g36 : G_pack_Uint} {g37 : G_keycode_Put} {s0 : S_schema_Put_0} {s1 : S_schema_Put_1} {s2 : S_schema_Put_2} {x0 : ByteArray} {x1 : List D_api_Col} {x2 : Int} {x3 : Int} {ret : (ByteArray × Int) → Option β} : schema_Put.s2c g10 g35 g36 g37 s0 s1 s2 x0 x1 x2 x3 ret = (schema_Put.s2c g10 g35 g36 g37 s0 s1 s2 x0 x1 x2 x3 some).bind ret := by
  simp only [schema_Put.s2c, bif_bind, sum_bind, Option.bind_assoc, Option.bind_some, Option.bind_none, Option.bind_fun_some]
theorem schema_Put.ev {g10 : G_schema_Check} {g35 : G_pack_Text} {g36 : G_pack_Uint} {g37 : G_keycode_Put} {s0 : S_schema_Put_0} {s1 : S_schema_Put_1} {s2 : S_schema_Put_2} {a0 : ByteArray} {a1 : Int} {a2 : List D_api_Col} : evAt (env_schema_Put g10 g35 g36 g37 s0 s1 s2) [] [0] [.v (.agg [(.d .str a0), (.d (.int .i64) a1), (.d (.sl T_api_Col) a2)])] [] some = schema_Put.c g10 g35 g36 g37 s0 s1 s2 a0 a1 a2 (fun r => some ⟨.tup [(.one (.d .str r.1)), (.one (.d (.int .i64) r.2))], []⟩) := by
  kernel_rfl
theorem schema_Put.s0_ev {g10 : G_schema_Check} {g35 : G_pack_Text} {g36 : G_pack_Uint} {g37 : G_keycode_Put} {s0 : S_schema_Put_0} {s1 : S_schema_Put_1} {s2 : S_schema_Put_2} {x0 : ByteArray} {x1 : List D_api_Col} {x2 : Int} {x3 : Int} : evAt (env_schema_Put g10 g35 g36 g37 s0 s1 s2) [4, 1, 0, 1, 1, 1] [5, 31, 32, 33] [.v (.one (.d .str x0)), .v (.one (.d (.sl T_api_Col) x1)), .v (.one (.d (.int .i64) x2)), .v (.one (.d (.int .i64) x3))] [] some = schema_Put.s0c g10 g35 g36 g37 s0 s1 s2 x0 x1 x2 x3 (fun r => some ⟨.tup [(.one (.d .str r.1)), (.one (.d (.int .i64) r.2))], []⟩) := by
  kernel_rfl
theorem schema_Put.s1_ev {g10 : G_schema_Check} {g35 : G_pack_Text} {g36 : G_pack_Uint} {g37 : G_keycode_Put} {s0 : S_schema_Put_0} {s1 : S_schema_Put_1} {s2 : S_schema_Put_2} {x0 : ByteArray} {x1 : ByteArray} {x2 : List D_api_Col} {x3 : Int} {x4 : Int} {x5 : ByteArray} {x6 : Int} {x7 : Bool} {x8 : Int} {x9 : Int} {x10 : Int} {x11 : ByteArray} : evAt (env_schema_Put g10 g35 g36 g37 s0 s1 s2) [1, 1, 1, 4, 0, 1, 1, 5, 4, 1, 0, 1, 1, 1] [5, 7, 8, 31, 32, 33] [.v (.one (.d .str x0)), .v (.one (.ptr 0 0)), .v (.one (.d .str x1)), .v (.one (.d (.sl T_api_Col) x2)), .v (.one (.d (.int .i64) x3)), .v (.one (.d (.int .i64) x4))] [some (.box [(.d .str x5), (.d (.int .i64) x6), (.d .bool x7), (.d (.int .i64) x8), (.d (.int .i64) x9), (.d (.int .u64) x10), (.d .str x11)])] some = schema_Put.s1c g10 g35 g36 g37 s0 s1 s2 x0 x1 x2 x3 x4 x5 x6 x7 x8 x9 x10 x11 (fun r => some ⟨.tup [(.one (.d .str r.1)), (.one (.d (.int .i64) r.2))], []⟩) := by
  kernel_rfl
theorem schema_Put.s2_ev {g10 : G_schema_Check} {g35 : G_pack_Text} {g36 : G_pack_Uint} {g37 : G_keycode_Put} {s0 : S_schema_Put_0} {s1 : S_schema_Put_1} {s2 : S_schema_Put_2} {x0 : ByteArray} {x1 : List D_api_Col} {x2 : Int} {x3 : Int} : evAt (env_schema_Put g10 g35 g36 g37 s0 s1 s2) [1, 1, 1, 5, 4, 1, 0, 1, 1, 1] [5, 31, 32, 33] [.v (.one (.d .str x0)), .v (.one (.d (.sl T_api_Col) x1)), .v (.one (.d (.int .i64) x2)), .v (.one (.d (.int .i64) x3))] [] some = schema_Put.s2c g10 g35 g36 g37 s0 s1 s2 x0 x1 x2 x3 (fun r => some ⟨.tup [(.one (.d .str r.1)), (.one (.d (.int .i64) r.2))], []⟩) := by
  kernel_rfl
mutual
def schema_Put.s0 : Nat → ByteArray → (List D_api_Col) → Int → Int → Option (ByteArray × Int)
  | 0, _, _, _, _ => none
  | k + 1, x0, x1, x2, x3 => schema_Put.s0c (schema_Check.f k) (pack_Text.f k) (pack_Uint.f k) (keycode_Put.f k) (schema_Put.s0 k) (schema_Put.s1 k) (schema_Put.s2 k) x0 x1 x2 x3 some
def schema_Put.s1 : Nat → ByteArray → ByteArray → (List D_api_Col) → Int → Int → ByteArray → Int → Bool → Int → Int → Int → ByteArray → Option (ByteArray × Int)
  | 0, _, _, _, _, _, _, _, _, _, _, _, _ => none
  | k + 1, x0, x1, x2, x3, x4, x5, x6, x7, x8, x9, x10, x11 => schema_Put.s1c (schema_Check.f k) (pack_Text.f k) (pack_Uint.f k) (keycode_Put.f k) (schema_Put.s0 k) (schema_Put.s1 k) (schema_Put.s2 k) x0 x1 x2 x3 x4 x5 x6 x7 x8 x9 x10 x11 some
def schema_Put.s2 : Nat → ByteArray → (List D_api_Col) → Int → Int → Option (ByteArray × Int)
  | 0, _, _, _, _ => none
  | k + 1, x0, x1, x2, x3 => schema_Put.s2c (schema_Check.f k) (pack_Text.f k) (pack_Uint.f k) (keycode_Put.f k) (schema_Put.s0 k) (schema_Put.s1 k) (schema_Put.s2 k) x0 x1 x2 x3 some
end
def schema_Put.f (k : Nat) (a0 : ByteArray) (a1 : Int) (a2 : List D_api_Col) : Option (ByteArray × Int) := schema_Put.c (schema_Check.f k) (pack_Text.f k) (pack_Uint.f k) (keycode_Put.f k) (schema_Put.s0 k) (schema_Put.s1 k) (schema_Put.s2 k) a0 a1 a2 some
theorem schema_Put.is {g10 : G_schema_Check} {g35 : G_pack_Text} {g36 : G_pack_Uint} {g37 : G_keycode_Put} {s0 : S_schema_Put_0} {s1 : S_schema_Put_1} {s2 : S_schema_Put_2} : FnIs (env_schema_Put g10 g35 g36 g37 s0 s1 s2) 14 Go.Proofs.Tryd.f14 := ⟨Go.Proofs.Tryd.func14, rfl, rfl, rfl, by decide⟩
theorem schema_Put.envok {g10 : G_schema_Check} {g35 : G_pack_Text} {g36 : G_pack_Uint} {g37 : G_keycode_Put} {s0 : S_schema_Put_0} {s1 : S_schema_Put_1} {s2 : S_schema_Put_2} (h10 : CtOK Go.Proofs.Tryd.prog 10 (ct_schema_Check g10)) (h35 : CtOK Go.Proofs.Tryd.prog 35 (ct_pack_Text g35)) (h36 : CtOK Go.Proofs.Tryd.prog 36 (ct_pack_Uint g36)) (h37 : CtOK Go.Proofs.Tryd.prog 37 (ct_keycode_Put g37)) : EnvOK (env_schema_Put g10 g35 g36 g37 s0 s1 s2).toEnv := by
  intro f c h
  simp only [env_schema_Put] at h
  split at h
  · rename_i e; subst e; cases h; exact h10
  split at h
  · rename_i e; subst e; cases h; exact h35
  split at h
  · rename_i e; subst e; cases h; exact h36
  split at h
  · rename_i e; subst e; cases h; exact h37
  simp at h
noncomputable abbrev schema_Put.E (k : Nat) : FEnv := env_schema_Put (schema_Check.f k) (pack_Text.f k) (pack_Uint.f k) (keycode_Put.f k) (schema_Put.s0 k) (schema_Put.s1 k) (schema_Put.s2 k)
theorem schema_Put.hE (k : Nat) : EnvOK (schema_Put.E k).toEnv := schema_Put.envok (schema_Check.ok k) (pack_Text.ok k) (pack_Uint.ok k) (keycode_Put.ok k)
theorem schema_Put.segs_ok : ∀ k, ∀ s ∈ (schema_Put.E k).segs, SegOK (schema_Put.E k) Go.Proofs.Tryd.f14 s
  | 0 => by
    intro s hs
    simp only [schema_Put.E, env_schema_Put, List.mem_cons, List.not_mem_nil, or_false] at hs
    rcases hs with rfl | rfl | rfl
    · intro tvs blks res h; exfalso; simp only [seg_schema_Put_0] at h; split at h <;> simp [schema_Put.s0] at h
    · intro tvs blks res h; exfalso; simp only [seg_schema_Put_1] at h; split at h <;> simp [schema_Put.s1] at h
    · intro tvs blks res h; exfalso; simp only [seg_schema_Put_2] at h; split at h <;> simp [schema_Put.s2] at h
  | k + 1 => by
    intro s hs
    simp only [schema_Put.E, env_schema_Put, List.mem_cons, List.not_mem_nil, or_false] at hs
    rcases hs with rfl | rfl | rfl
    · refine seg_of_ev (E := schema_Put.E k) (schema_Put.hE k) ⟨schema_Put.is.rvs⟩ (schema_Put.segs_ok k) ?_
      intro tvs blks res h
      simp only [seg_schema_Put_0] at h
      split at h
      · exact (schema_Put.s0_ev.trans schema_Put.s0c_bind).trans h
      · simp at h
    · refine seg_of_ev (E := schema_Put.E k) (schema_Put.hE k) ⟨schema_Put.is.rvs⟩ (schema_Put.segs_ok k) ?_
      intro tvs blks res h
      simp only [seg_schema_Put_1] at h
      split at h
      · exact (schema_Put.s1_ev.trans schema_Put.s1c_bind).trans h
      · simp at h
    · refine seg_of_ev (E := schema_Put.E k) (schema_Put.hE k) ⟨schema_Put.is.rvs⟩ (schema_Put.segs_ok k) ?_
      intro tvs blks res h
      simp only [seg_schema_Put_2] at h
      split at h
      · exact (schema_Put.s2_ev.trans schema_Put.s2c_bind).trans h
      · simp at h
theorem schema_Put.ok (k : Nat) : CtOK Go.Proofs.Tryd.prog 14 (ct_schema_Put (schema_Put.f k)) := by
  refine ct_of_ev (E := schema_Put.E k) schema_Put.is (schema_Put.hE k) (schema_Put.segs_ok k) rfl ?_
  intro tvs blks res h
  simp only [ct_schema_Put] at h
  split at h
  · exact (schema_Put.ev.trans schema_Put.c_bind).trans h
  · simp at h

/-! ### pack_ReadUint: function 58 -/
abbrev G_pack_ReadUint : Type := ByteArray → Option (Int × ByteArray × Int)
def ct_pack_ReadUint (g : G_pack_ReadUint) : Ct where
  nin := 0
  mv := []
  F := fun tvs blks {β} K => match tvs, blks with
    | [.v (.one (.d .str a0))], [] => (g a0).bind fun r => K ⟨.tup [(.one (.d (.int .u64) r.1)), (.one (.d .str r.2.1)), (.one (.d (.int .i64) r.2.2))], []⟩
    | _, _ => none
  legit := fun tvs blks K r h => by
    split at h
    · obtain ⟨x, hx, hk⟩ := Option.bind_eq_some_iff.1 h
      refine ⟨_, ?_, hk⟩
      simp only [hx, Option.bind_some]
    · simp at h
abbrev S_pack_ReadUint_0 : Type := ByteArray → Int → Int → Bool → Option (Int × ByteArray × Int)
abbrev S_pack_ReadUint_1 : Type := ByteArray → Int → Int → Option (Int × ByteArray × Int)
abbrev S_pack_ReadUint_2 : Type := ByteArray → Int → Int → Option (Int × ByteArray × Int)
abbrev S_pack_ReadUint_3 : Type := ByteArray → Int → Int → Bool → Option (Int × ByteArray × Int)
abbrev S_pack_ReadUint_4 : Type := ByteArray → Int → Int → Option (Int × ByteArray × Int)
def seg_pack_ReadUint_0 (g : S_pack_ReadUint_0) : Seg where
  path := [1, 3, 1, 4, 0, 1, 1, 1, 6, 1]
  prep := []
  keep := [0, 5, 6, 13]
  F := fun tvs blks {β} K => match tvs, blks with
    | [.v (.one (.d .str x0)), .v (.one (.d (.int .u64) x1)), .v (.one (.d (.int .i64) x2)), .v (.one (.d .bool x3))], [] => (g x0 x1 x2 x3).bind fun r => K ⟨.tup [(.one (.d (.int .u64) r.1)), (.one (.d .str r.2.1)), (.one (.d (.int .i64) r.2.2))], []⟩
    | _, _ => none
  legit := fun tvs blks K r h => by
    split at h
    · obtain ⟨x, hx, hk⟩ := Option.bind_eq_some_iff.1 h
      refine ⟨_, ?_, hk⟩
      simp only [hx, Option.bind_some]
    · simp at h
def seg_pack_ReadUint_1 (g : S_pack_ReadUint_1) : Seg where
  path := [1, 1, 1, 1, 6, 1]
  prep := []
  keep := [0, 5, 6]
  F := fun tvs blks {β} K => match tvs, blks with
    | [.v (.one (.d .str x0)), .v (.one (.d (.int .u64) x1)), .v (.one (.d (.int .i64) x2))], [] => (g x0 x1 x2).bind fun r => K ⟨.tup [(.one (.d (.int .u64) r.1)), (.one (.d .str r.2.1)), (.one (.d (.int .i64) r.2.2))], []⟩
    | _, _ => none
  legit := fun tvs blks K r h => by
    split at h
    · obtain ⟨x, hx, hk⟩ := Option.bind_eq_some_iff.1 h
      refine ⟨_, ?_, hk⟩
      simp only [hx, Option.bind_some]
    · simp at h
def seg_pack_ReadUint_2 (g : S_pack_ReadUint_2) : Seg where
  path := [100, 1]
  prep := []
  keep := [0, 5, 6]
  F := fun tvs blks {β} K => match tvs, blks with
    | [.v (.one (.d .str x0)), .v (.one (.d (.int .u64) x1)), .v (.one (.d (.int .i64) x2))], [] => (g x0 x1 x2).bind fun r => K ⟨.tup [(.one (.d (.int .u64) r.1)), (.one (.d .str r.2.1)), (.one (.d (.int .i64) r.2.2))], []⟩
    | _, _ => none
  legit := fun tvs blks K r h => by
    split at h
    · obtain ⟨x, hx, hk⟩ := Option.bind_eq_some_iff.1 h
      refine ⟨_, ?_, hk⟩
      simp only [hx, Option.bind_some]
    · simp at h
def seg_pack_ReadUint_3 (g : S_pack_ReadUint_3) : Seg where
  path := [1, 3, 1, 4, 0, 1, 100, 1]
  prep := []
  keep := [0, 5, 6, 13]
  F := fun tvs blks {β} K => match tvs, blks with
    | [.v (.one (.d .str x0)), .v (.one (.d (.int .u64) x1)), .v (.one (.d (.int .i64) x2)), .v (.one (.d .bool x3))], [] => (g x0 x1 x2 x3).bind fun r => K ⟨.tup [(.one (.d (.int .u64) r.1)), (.one (.d .str r.2.1)), (.one (.d (.int .i64) r.2.2))], []⟩
    | _, _ => none
  legit := fun tvs blks K r h => by
    split at h
    · obtain ⟨x, hx, hk⟩ := Option.bind_eq_some_iff.1 h
      refine ⟨_, ?_, hk⟩
      simp only [hx, Option.bind_some]
    · simp at h
def seg_pack_ReadUint_4 (g : S_pack_ReadUint_4) : Seg where
  path := [1, 1, 100, 1]
  prep := []
  keep := [0, 5, 6]
  F := fun tvs blks {β} K => match tvs, blks with
    | [.v (.one (.d .str x0)), .v (.one (.d (.int .u64) x1)), .v (.one (.d (.int .i64) x2))], [] => (g x0 x1 x2).bind fun r => K ⟨.tup [(.one (.d (.int .u64) r.1)), (.one (.d .str r.2.1)), (.one (.d (.int .i64) r.2.2))], []⟩
    | _, _ => none
  legit := fun tvs blks K r h => by
    split at h
    · obtain ⟨x, hx, hk⟩ := Option.bind_eq_some_iff.1 h
      refine ⟨_, ?_, hk⟩
      simp only [hx, Option.bind_some]
    · simp at h
noncomputable def env_pack_ReadUint  (s0 : S_pack_ReadUint_0) (s1 : S_pack_ReadUint_1) (s2 : S_pack_ReadUint_2) (s3 : S_pack_ReadUint_3) (s4 : S_pack_ReadUint_4) : FEnv := { P := Go.Proofs.Tryd.prog, ct := fun m => none, N := 47, body := Go.Proofs.Tryd.f58.body.getD .skip, rvs := [.tmp 2, .tmp 3, .tmp 4], rts := [29, 9, 27], nin := 0, rmv := [], segs := [seg_pack_ReadUint_0 s0, seg_pack_ReadUint_1 s1, seg_pack_ReadUint_2 s2, seg_pack_ReadUint_3 s3, seg_pack_ReadUint_4 s4] }
def pack_ReadUint.c {β : Type}  (s0 : S_pack_ReadUint_0) (s1 : S_pack_ReadUint_1) (s2 : S_pack_ReadUint_2) (s3 : S_pack_ReadUint_3) (s4 : S_pack_ReadUint_4) (a0 : ByteArray) (ret : (Int × ByteArray × Int) → Option β) : Option β := (bif ((0 : Int) == ((ByteArray.size a0) : Int)) then (ret ((0 : Int), (ByteArray.mk (List.toArray [])), (3 : Int))) else ((s0 a0 (0 : Int) (0 : Int) false).bind ret))
def pack_ReadUint.s0c {β : Type}  (s0 : S_pack_ReadUint_0) (s1 : S_pack_ReadUint_1) (s2 : S_pack_ReadUint_2) (s3 : S_pack_ReadUint_3) (s4 : S_pack_ReadUint_4) (x0 : ByteArray) (x1 : Int) (x2 : Int) (x3 : Bool) (ret : (Int × ByteArray × Int) → Option β) : Option β := (bif x3 then (ret ((0 : Int), (ByteArray.mk (List.toArray [])), (4 : Int))) else ((s1 x0 x1 x2).bind ret))
def pack_ReadUint.s1c {β : Type}  (s0 : S_pack_ReadUint_0) (s1 : S_pack_ReadUint_1) (s2 : S_pack_ReadUint_2) (s3 : S_pack_ReadUint_3) (s4 : S_pack_ReadUint_4) (x0 : ByteArray) (x1 : Int) (x2 : Int) (ret : (Int × ByteArray × Int) → Option β) : Option β := (bif ((decide ((0 : Int) ≤ x2)) && (decide (x2 < ((ByteArray.size x0) : Int)))) then (bif (decide ((0 : Int) ≤ (IntKind.wrap IntKind.i64 ((7 : Int) * x2)))) then (bif (decide ((bt x0 x2) > (127 : Int))) then ((s2 x0 (IntKind.wrap IntKind.u64 ((BitVec.toNat ((BitVec.ofInt (64 : Nat) x1) ||| (BitVec.ofInt (64 : Nat) (IntKind.wrap IntKind.u64 ((IntKind.wrap IntKind.u64 (IntKind.wrap IntKind.u8 ((BitVec.toNat ((BitVec.ofInt (8 : Nat) (bt x0 x2)) &&& (BitVec.ofInt (8 : Nat) (127 : Int)))) : Int))) * ((2 : Int) ^ (Min.min (Int.toNat (IntKind.wrap IntKind.i64 ((7 : Int) * x2))) (64 : Nat)))))))) : Int)) (IntKind.wrap IntKind.i64 (x2 + (1 : Int)))).bind ret) else (bif ((bt x0 x2) == (0 : Int)) then (bif (decide ((IntKind.wrap IntKind.i64 (x2 + (1 : Int))) > (1 : Int))) then (ret ((0 : Int), (ByteArray.mk (List.toArray [])), (4 : Int))) else (bif (((decide ((0 : Int) ≤ (IntKind.wrap IntKind.i64 (x2 + (1 : Int))))) && (decide ((IntKind.wrap IntKind.i64 (x2 + (1 : Int))) ≤ ((ByteArray.size x0) : Int)))) && (decide (((ByteArray.size x0) : Int) ≤ ((ByteArray.size x0) : Int)))) then (ret ((IntKind.wrap IntKind.u64 ((BitVec.toNat ((BitVec.ofInt (64 : Nat) x1) ||| (BitVec.ofInt (64 : Nat) (IntKind.wrap IntKind.u64 ((IntKind.wrap IntKind.u64 (IntKind.wrap IntKind.u8 ((BitVec.toNat ((BitVec.ofInt (8 : Nat) (bt x0 x2)) &&& (BitVec.ofInt (8 : Nat) (127 : Int)))) : Int))) * ((2 : Int) ^ (Min.min (Int.toNat (IntKind.wrap IntKind.i64 ((7 : Int) * x2))) (64 : Nat)))))))) : Int)), (ByteArray.extract x0 (Int.toNat (IntKind.wrap IntKind.i64 (x2 + (1 : Int)))) (Int.toNat ((ByteArray.size x0) : Int))), (0 : Int))) else none)) else (bif (((decide ((0 : Int) ≤ (IntKind.wrap IntKind.i64 (x2 + (1 : Int))))) && (decide ((IntKind.wrap IntKind.i64 (x2 + (1 : Int))) ≤ ((ByteArray.size x0) : Int)))) && (decide (((ByteArray.size x0) : Int) ≤ ((ByteArray.size x0) : Int)))) then (ret ((IntKind.wrap IntKind.u64 ((BitVec.toNat ((BitVec.ofInt (64 : Nat) x1) ||| (BitVec.ofInt (64 : Nat) (IntKind.wrap IntKind.u64 ((IntKind.wrap IntKind.u64 (IntKind.wrap IntKind.u8 ((BitVec.toNat ((BitVec.ofInt (8 : Nat) (bt x0 x2)) &&& (BitVec.ofInt (8 : Nat) (127 : Int)))) : Int))) * ((2 : Int) ^ (Min.min (Int.toNat (IntKind.wrap IntKind.i64 ((7 : Int) * x2))) (64 : Nat)))))))) : Int)), (ByteArray.extract x0 (Int.toNat (IntKind.wrap IntKind.i64 (x2 + (1 : Int)))) (Int.toNat ((ByteArray.size x0) : Int))), (0 : Int))) else none))) else none) else none)
def pack_ReadUint.s2c {β : Type}  (s0 : S_pack_ReadUint_0) (s1 : S_pack_ReadUint_1) (s2 : S_pack_ReadUint_2) (s3 : S_pack_ReadUint_3) (s4 : S_pack_ReadUint_4) (x0 : ByteArray) (x1 : Int) (x2 : Int) (ret : (Int × ByteArray × Int) → Option β) : Option β := (bif (x2 == ((ByteArray.size x0) : Int)) then (ret ((0 : Int), (ByteArray.mk (List.toArray [])), (3 : Int))) else (bif (x2 == (9 : Int)) then (bif ((decide ((0 : Int) ≤ x2)) && (decide (x2 < ((ByteArray.size x0) : Int)))) then ((s3 x0 x1 x2 (decide ((bt x0 x2) > (1 : Int)))).bind ret) else none) else ((s3 x0 x1 x2 false).bind ret)))
def pack_ReadUint.s3c {β : Type}  (s0 : S_pack_ReadUint_0) (s1 : S_pack_ReadUint_1) (s2 : S_pack_ReadUint_2) (s3 : S_pack_ReadUint_3) (s4 : S_pack_ReadUint_4) (x0 : ByteArray) (x1 : Int) (x2 : Int) (x3 : Bool) (ret : (Int × ByteArray × Int) → Option β) : Option β := (bif x3 then (ret ((0 : Int), (ByteArray.mk (List.toArray [])), (4 : Int))) else ((s4 x0 x1 x2).bind ret))
def pack_ReadUint.s4c {β : Type}  (s0 : S_pack_ReadUint_0) (s1 : S_pack_ReadUint_1) (s2 : S_pack_ReadUint_2) (s3 : S_pack_ReadUint_3) (s4 : S_pack_ReadUint_4) (x0 : ByteArray) (x1 : Int) (x2 : Int) (ret : (Int × ByteArray × Int) → Option β) : Option β := (bif ((decide ((0 : Int) ≤ x2)) && (decide (x2 < ((ByteArray.size x0) : Int)))) then (bif (decide ((0 : Int) ≤ (IntKind.wrap IntKind.i64 ((7 : Int) * x2)))) then (bif (decide ((bt x0 x2) > (127 : Int))) then ((s2 x0 (IntKind.wrap IntKind.u64 ((BitVec.toNat ((BitVec.ofInt (64 : Nat) x1) ||| (BitVec.ofInt (64 : Nat) (IntKind.wrap IntKind.u64 ((IntKind.wrap IntKind.u64 (IntKind.wrap IntKind.u8 ((BitVec.toNat ((BitVec.ofInt (8 : Nat) (bt x0 x2)) &&& (BitVec.ofInt (8 : Nat) (127 : Int)))) : Int))) * ((2 : Int) ^ (Min.min (Int.toNat (IntKind.wrap IntKind.i64 ((7 : Int) * x2))) (64 : Nat)))))))) : Int)) (IntKind.wrap IntKind.i64 (x2 + (1 : Int)))).bind ret) else (bif ((bt x0 x2) == (0 : Int)) then (bif (decide ((IntKind.wrap IntKind.i64 (x2 + (1 : Int))) > (1 : Int))) then (ret ((0 : Int), (ByteArray.mk (List.toArray [])), (4 : Int))) else (bif (((decide ((0 : Int) ≤ (IntKind.wrap IntKind.i64 (x2 + (1 : Int))))) && (decide ((IntKind.wrap IntKind.i64 (x2 + (1 : Int))) ≤ ((ByteArray.size x0) : Int)))) && (decide (((ByteArray.size x0) : Int) ≤ ((ByteArray.size x0) : Int)))) then (ret ((IntKind.wrap IntKind.u64 ((BitVec.toNat ((BitVec.ofInt (64 : Nat) x1) ||| (BitVec.ofInt (64 : Nat) (IntKind.wrap IntKind.u64 ((IntKind.wrap IntKind.u64 (IntKind.wrap IntKind.u8 ((BitVec.toNat ((BitVec.ofInt (8 : Nat) (bt x0 x2)) &&& (BitVec.ofInt (8 : Nat) (127 : Int)))) : Int))) * ((2 : Int) ^ (Min.min (Int.toNat (IntKind.wrap IntKind.i64 ((7 : Int) * x2))) (64 : Nat)))))))) : Int)), (ByteArray.extract x0 (Int.toNat (IntKind.wrap IntKind.i64 (x2 + (1 : Int)))) (Int.toNat ((ByteArray.size x0) : Int))), (0 : Int))) else none)) else (bif (((decide ((0 : Int) ≤ (IntKind.wrap IntKind.i64 (x2 + (1 : Int))))) && (decide ((IntKind.wrap IntKind.i64 (x2 + (1 : Int))) ≤ ((ByteArray.size x0) : Int)))) && (decide (((ByteArray.size x0) : Int) ≤ ((ByteArray.size x0) : Int)))) then (ret ((IntKind.wrap IntKind.u64 ((BitVec.toNat ((BitVec.ofInt (64 : Nat) x1) ||| (BitVec.ofInt (64 : Nat) (IntKind.wrap IntKind.u64 ((IntKind.wrap IntKind.u64 (IntKind.wrap IntKind.u8 ((BitVec.toNat ((BitVec.ofInt (8 : Nat) (bt x0 x2)) &&& (BitVec.ofInt (8 : Nat) (127 : Int)))) : Int))) * ((2 : Int) ^ (Min.min (Int.toNat (IntKind.wrap IntKind.i64 ((7 : Int) * x2))) (64 : Nat)))))))) : Int)), (ByteArray.extract x0 (Int.toNat (IntKind.wrap IntKind.i64 (x2 + (1 : Int)))) (Int.toNat ((ByteArray.size x0) : Int))), (0 : Int))) else none))) else none) else none)
theorem pack_ReadUint.c_bind {β : Type}  {s0 : S_pack_ReadUint_0} {s1 : S_pack_ReadUint_1} {s2 : S_pack_ReadUint_2} {s3 : S_pack_ReadUint_3} {s4 : S_pack_ReadUint_4} {a0 : ByteArray} {ret : (Int × ByteArray × Int) → Option β} : pack_ReadUint.c  s0 s1 s2 s3 s4 a0 ret = (pack_ReadUint.c  s0 s1 s2 s3 s4 a0 some).bind ret := by
  simp only [pack_ReadUint.c, bif_bind, sum_bind, Option.bind_assoc, Option.bind_some, Option.bind_none, Option.bind_fun_some]
theorem pack_ReadUint.s0c_bind {β : Type}  {s0 : S_pack_ReadUint_0} {s1 : S_pack_ReadUint_1} {s2 : S_pack_ReadUint_2} {s3 : S_pack_ReadUint_3} {s4 : S_pack_ReadUint_4} {x0 : ByteArray} {x1 : Int} {x2 : Int} {x3 : Bool} {ret : (Int × ByteArray × Int) → Option β} : pack_ReadUint.s0c  s0 s1 s2 s3 s4 x0 x1 x2 x3 ret = (pack_ReadUint.s0c  s0 s1 s2 s3 s4 x0 x1 x2 x3 some).bind ret := by
  simp only [pack_ReadUint.s0c, bif_bind, sum_bind, Option.bind_assoc, Option.bind_some, Option.bind_none, Option.bind_fun_some]
theorem pack_ReadUint.s1c_bind {β : Type}  {s0 : S_pack_ReadUint_0} {s1 : S_pack_ReadUint_1} {s2 : S_pack_ReadUint_2} {s3 : S_pack_ReadUint_3} {s4 : S_pack_ReadUint_4} {x0 : ByteArray} {x1 : Int} {x2 : Int} {ret : (Int × ByteArray × Int) → Option β} : pack_ReadUint.s1c  s0 s1 s2 s3 s4 x0 x1 x2 ret = (pack_ReadUint.s1c  s0 s1 s2 s3 s4 x0 x1 x2 some).bind ret := by
  simp only [pack_ReadUint.s1c, bif_bind, sum_bind, Option.bind_assoc, Option.bind_some, Option.bind_none, Option.bind_fun_some]
theorem pack_ReadUint.s2c_bind {β : Type}  {s0 : S_pack_ReadUint_0} {s1 : S_pack_ReadUint_1} {s2 : S_pack_ReadUint_2} {s3 : S_pack_ReadUint_3} {s4 : S_pack_ReadUint_4} {x0 : ByteArray} {x1 : Int} {x2 : Int} {ret : (Int × ByteArray × Int) → Option β} : pack_ReadUint.s2c  s0 s1 s2 s3 s4 x0 x1 x2 ret = (pack_ReadUint.s2c  s0 s1 s2 s3 s4 x0 x1 x2 some).bind ret := by
  simp only [pack_ReadUint.s2c, bif_bind, sum_bind, Option.bind_assoc, Option.bind_some, Option.bind_none, Option.bind_fun_some]
theorem pack_ReadUint.s3c_bind {β : Type}  {s0 : S_pack_ReadUint_0} {s1 : S_pack_ReadUint_1} {s2 : S_pack_ReadUint_2} {s3 : S_pack_ReadUint_3} {s4 : S_pack_ReadUint_4} {x0 : ByteArray} {x1 : Int} {x2 : Int} {x3 : Bool} {ret : (Int × ByteArray × Int) → Option β} : pack_ReadUint.s3c  s0 s1 s2 s3 s4 x0 x1 x2 x3 ret = (pack_ReadUint.s3c  s0 s1 s2 s3 s4 x0 x1 x2 x3 some).bind ret := by
  simp only [pack_ReadUint.s3c, bif_bind, sum_bind, Option.bind_assoc, Option.bind_some, Option.bind_none, Option.bind_fun_some]
theorem pack_ReadUint.s4c_bind {β : Type}  {s0 : S_pack_ReadUint_0} {s1 : S_pack_ReadUint_1} {s2 : S_pack_ReadUint_2} {s3 : S_pack_ReadUint_3} {s4 : S_pack_ReadUint_4} {x0 : ByteArray} {x1 : Int} {x2 : Int} {ret : (Int × ByteArray × Int) → Option β} : pack_ReadUint.s4c  s0 s1 s2 s3 s4 x0 x1 x2 ret = (pack_ReadUint.s4c  s0 s1 s2 s3 s4 x0 x1 x2 some).bind ret := by
  simp only [pack_ReadUint.s4c, bif_bind, sum_bind, Option.bind_assoc, Option.bind_some, Option.bind_none, Option.bind_fun_some]
theorem pack_ReadUint.ev  {s0 : S_pack_ReadUint_0} {s1 : S_pack_ReadUint_1} {s2 : S_pack_ReadUint_2} {s3 : S_pack_ReadUint_3} {s4 : S_pack_ReadUint_4} {a0 : ByteArray} : evAt (env_pack_ReadUint  s0 s1 s2 s3 s4) [] [0] [.v (.one (.d .str a0))] [] some = pack_ReadUint.c  s0 s1 s2 s3 s4 a0 (fun r => some ⟨.tup [(.one (.d (.int .u64) r.1)), (.one (.d .str r.2.1)), (.one (.d (.int .i64) r.2.2))], []⟩) := by
  kernel_rfl
theorem pack_ReadUint.s0_ev  {s0 : S_pack_ReadUint_0} {s1 : S_pack_ReadUint_1} {s2 : S_pack_ReadUint_2} {s3 : S_pack_ReadUint_3} {s4 : S_pack_ReadUint_4} {x0 : ByteArray} {x1 : Int} {x2 : Int} {x3 : Bool} : evAt (env_pack_ReadUint  s0 s1 s2 s3 s4) [1, 3, 1, 4, 0, 1, 1, 1, 6, 1] [0, 5, 6, 13] [.v (.one (.d .str x0)), .v (.one (.d (.int .u64) x1)), .v (.one (.d (.int .i64) x2)), .v (.one (.d .bool x3))] [] some = pack_ReadUint.s0c  s0 s1 s2 s3 s4 x0 x1 x2 x3 (fun r => some ⟨.tup [(.one (.d (.int .u64) r.1)), (.one (.d .str r.2.1)), (.one (.d (.int .i64) r.2.2))], []⟩) := by
  kernel_rfl
theorem pack_ReadUint.s1_ev  {s0 : S_pack_ReadUint_0} {s1 : S_pack_ReadUint_1} {s2 : S_pack_ReadUint_2} {s3 : S_pack_ReadUint_3} {s4 : S_pack_ReadUint_4} {x0 : ByteArray} {x1 : Int} {x2 : Int} : evAt (env_pack_ReadUint  s0 s1 s2 s3 s4) [1, 1, 1, 1, 6, 1] [0, 5, 6] [.v (.one (.d .str x0)), .v (.one (.d (.int .u64) x1)), .v (.one (.d (.int .i64) x2))] [] some = pack_ReadUint.s1c  s0 s1 s2 s3 s4 x0 x1 x2 (fun r => some ⟨.tup [(.one (.d (.int .u64) r.1)), (.one (.d .str r.2.1)), (.one (.d (.int .i64) r.2.2))], []⟩) := by
  kernel_rfl
theorem pack_ReadUint.s2_ev  {s0 : S_pack_ReadUint_0} {s1 : S_pack_ReadUint_1} {s2 : S_pack_ReadUint_2} {s3 : S_pack_ReadUint_3} {s4 : S_pack_ReadUint_4} {x0 : ByteArray} {x1 : Int} {x2 : Int} : evAt (env_pack_ReadUint  s0 s1 s2 s3 s4) [100, 1] [0, 5, 6] [.v (.one (.d .str x0)), .v (.one (.d (.int .u64) x1)), .v (.one (.d (.int .i64) x2))] [] some = pack_ReadUint.s2c  s0 s1 s2 s3 s4 x0 x1 x2 (fun r => some ⟨.tup [(.one (.d (.int .u64) r.1)), (.one (.d .str r.2.1)), (.one (.d (.int .i64) r.2.2))], []⟩) := by
  kernel_rfl
theorem pack_ReadUint.s3_ev  {s0 : S_pack_ReadUint_0} {s1 : S_pack_ReadUint_1} {s2 : S_pack_ReadUint_2} {s3 : S_pack_ReadUint_3} {s4 : S_pack_ReadUint_4} {x0 : ByteArray} {x1 : Int} {x2 : Int} {x3 : Bool} : evAt (env_pack_ReadUint  s0 s1 s2 s3 s4) [1, 3, 1, 4, 0, 1, 100, 1] [0, 5, 6, 13] [.v (.one (.d .str x0)), .v (.one (.d (.int .u64) x1)), .v (.one (.d (.int .i64) x2)), .v (.one (.d .bool x3))] [] some = pack_ReadUint.s3c  s0 s1 s2 s3 s4 x0 x1 x2 x3 (fun r => some ⟨.tup [(.one (.d (.int .u64) r.1)), (.one (.d .str r.2.1)), (.one (.d (.int .i64) r.2.2))], []⟩) := by
  kernel_rfl
theorem pack_ReadUint.s4_ev  {s0 : S_pack_ReadUint_0} {s1 : S_pack_ReadUint_1} {s2 : S_pack_ReadUint_2} {s3 : S_pack_ReadUint_3} {s4 : S_pack_ReadUint_4} {x0 : ByteArray} {x1 : Int} {x2 : Int} : evAt (env_pack_ReadUint  s0 s1 s2 s3 s4) [1, 1, 100, 1] [0, 5, 6] [.v (.one (.d .str x0)), .v (.one (.d (.int .u64) x1)), .v (.one (.d (.int .i64) x2))] [] some = pack_ReadUint.s4c  s0 s1 s2 s3 s4 x0 x1 x2 (fun r => some ⟨.tup [(.one (.d (.int .u64) r.1)), (.one (.d .str r.2.1)), (.one (.d (.int .i64) r.2.2))], []⟩) := by
  kernel_rfl
mutual
def pack_ReadUint.s0 : Nat → ByteArray → Int → Int → Bool → Option (Int × ByteArray × Int)
  | 0, _, _, _, _ => none
  | k + 1, x0, x1, x2, x3 => pack_ReadUint.s0c  (pack_ReadUint.s0 k) (pack_ReadUint.s1 k) (pack_ReadUint.s2 k) (pack_ReadUint.s3 k) (pack_ReadUint.s4 k) x0 x1 x2 x3 some
def pack_ReadUint.s1 : Nat → ByteArray → Int → Int → Option (Int × ByteArray × Int)
  | 0, _, _, _ => none
  | k + 1, x0, x1, x2 => pack_ReadUint.s1c  (pack_ReadUint.s0 k) (pack_ReadUint.s1 k) (pack_ReadUint.s2 k) (pack_ReadUint.s3 k) (pack_ReadUint.s4 k) x0 x1 x2 some
def pack_ReadUint.s2 : Nat → ByteArray → Int → Int → Option (Int × ByteArray × Int)
  | 0, _, _, _ => none
  | k + 1, x0, x1, x2 => pack_ReadUint.s2c  (pack_ReadUint.s0 k) (pack_ReadUint.s1 k) (pack_ReadUint.s2 k) (pack_ReadUint.s3 k) (pack_ReadUint.s4 k) x0 x1 x2 some
def pack_ReadUint.s3 : Nat → ByteArray → Int → Int → Bool → Option (Int × ByteArray × Int)
  | 0, _, _, _, _ => none
  | k + 1, x0, x1, x2, x3 => pack_ReadUint.s3c  (pack_ReadUint.s0 k) (pack_ReadUint.s1 k) (pack_ReadUint.s2 k) (pack_ReadUint.s3 k) (pack_ReadUint.s4 k) x0 x1 x2 x3 some
def pack_ReadUint.s4 : Nat → ByteArray → Int → Int → Option (Int × ByteArray × Int)
  | 0, _, _, _ => none
  | k + 1, x0, x1, x2 => pack_ReadUint.s4c  (pack_ReadUint.s0 k) (pack_ReadUint.s1 k) (pack_ReadUint.s2 k) (pack_ReadUint.s3 k) (pack_ReadUint.s4 k) x0 x1 x2 some
end
def pack_ReadUint.f (k : Nat) (a0 : ByteArray) : Option (Int × ByteArray × Int) := pack_ReadUint.c  (pack_ReadUint.s0 k) (pack_ReadUint.s1 k) (pack_ReadUint.s2 k) (pack_ReadUint.s3 k) (pack_ReadUint.s4 k) a0 some
theorem pack_ReadUint.is  {s0 : S_pack_ReadUint_0} {s1 : S_pack_ReadUint_1} {s2 : S_pack_ReadUint_2} {s3 : S_pack_ReadUint_3} {s4 : S_pack_ReadUint_4} : FnIs (env_pack_ReadUint  s0 s1 s2 s3 s4) 58 Go.Proofs.Tryd.f58 := ⟨Go.Proofs.Tryd.func58, rfl, rfl, rfl, by decide⟩
theorem pack_ReadUint.envok  {s0 : S_pack_ReadUint_0} {s1 : S_pack_ReadUint_1} {s2 : S_pack_ReadUint_2} {s3 : S_pack_ReadUint_3} {s4 : S_pack_ReadUint_4}  : EnvOK (env_pack_ReadUint  s0 s1 s2 s3 s4).toEnv := by
  intro f c h
  simp only [env_pack_ReadUint] at h
  simp at h
noncomputable abbrev pack_ReadUint.E (k : Nat) : FEnv := env_pack_ReadUint  (pack_ReadUint.s0 k) (pack_ReadUint.s1 k) (pack_ReadUint.s2 k) (pack_ReadUint.s3 k) (pack_ReadUint.s4 k)
theorem pack_ReadUint.hE (k : Nat) : EnvOK (pack_ReadUint.E k).toEnv := pack_ReadUint.envok 
theorem pack_ReadUint.segs_ok : ∀ k, ∀ s ∈ (pack_ReadUint.E k).segs, SegOK (pack_ReadUint.E k) Go.Proofs.Tryd.f58 s
  | 0 => by
    intro s hs
    simp only [pack_ReadUint.E, env_pack_ReadUint, List.mem_cons, List.not_mem_nil, or_false] at hs
    rcases hs with rfl | rfl | rfl | rfl | rfl
    · intro tvs blks res h; exfalso; simp only [seg_pack_ReadUint_0] at h; split at h <;> simp [pack_ReadUint.s0] at h
    · intro tvs blks res h; exfalso; simp only [seg_pack_ReadUint_1] at h; split at h <;> simp [pack_ReadUint.s1] at h
    · intro tvs blks res h; exfalso; simp only [seg_pack_ReadUint_2] at h; split at h <;> simp [pack_ReadUint.s2] at h
    · intro tvs blks res h; exfalso; simp only [seg_pack_ReadUint_3] at h; split at h <;> simp [pack_ReadUint.s3] at h
    · intro tvs blks res h; exfalso; simp only [seg_pack_ReadUint_4] at h; split at h <;> simp [pack_ReadUint.s4] at h
  | k + 1 => by
    intro s hs
    simp only [pack_ReadUint.E, env_pack_ReadUint, List.mem_cons, List.not_mem_nil, or_false] at hs
    rcases hs with rfl | rfl | rfl | rfl | rfl
    · refine seg_of_ev (E := pack_ReadUint.E k) (pack_ReadUint.hE k) ⟨pack_ReadUint.is.rvs⟩ (pack_ReadUint.segs_ok k) ?_
      intro tvs blks res h
      simp only [seg_pack_ReadUint_0] at h
      split at h
      · exact (pack_ReadUint.s0_ev.trans pack_ReadUint.s0c_bind).trans h
      · simp at h
    · refine seg_of_ev (E := pack_ReadUint.E k) (pack_ReadUint.hE k) ⟨pack_ReadUint.is.rvs⟩ (pack_ReadUint.segs_ok k) ?_
      intro tvs blks res h
      simp only [seg_pack_ReadUint_1] at h
      split at h
      · exact (pack_ReadUint.s1_ev.trans pack_ReadUint.s1c_bind).trans h
      · simp at h
    · refine seg_of_ev (E := pack_ReadUint.E k) (pack_ReadUint.hE k) ⟨pack_ReadUint.is.rvs⟩ (pack_ReadUint.segs_ok k) ?_
      intro tvs blks res h
      simp only [seg_pack_ReadUint_2] at h
      split at h
      · exact (pack_ReadUint.s2_ev.trans pack_ReadUint.s2c_bind).trans h
      · simp at h
    · refine seg_of_ev (E := pack_ReadUint.E k) (pack_ReadUint.hE k) ⟨pack_ReadUint.is.rvs⟩ (pack_ReadUint.segs_ok k) ?_
      intro tvs blks res h
      simp only [seg_pack_ReadUint_3] at h
      split at h
      · exact (pack_ReadUint.s3_ev.trans pack_ReadUint.s3c_bind).trans h
      · simp at h
    · refine seg_of_ev (E := pack_ReadUint.E k) (pack_ReadUint.hE k) ⟨pack_ReadUint.is.rvs⟩ (pack_ReadUint.segs_ok k) ?_
      intro tvs blks res h
      simp only [seg_pack_ReadUint_4] at h
      split at h
      · exact (pack_ReadUint.s4_ev.trans pack_ReadUint.s4c_bind).trans h
      · simp at h
theorem pack_ReadUint.ok (k : Nat) : CtOK Go.Proofs.Tryd.prog 58 (ct_pack_ReadUint (pack_ReadUint.f k)) := by
  refine ct_of_ev (E := pack_ReadUint.E k) pack_ReadUint.is (pack_ReadUint.hE k) (pack_ReadUint.segs_ok k) rfl ?_
  intro tvs blks res h
  simp only [ct_pack_ReadUint] at h
  split at h
  · exact (pack_ReadUint.ev.trans pack_ReadUint.c_bind).trans h
  · simp at h

/-! ### pack_ReadText: function 57 -/
abbrev G_pack_ReadText : Type := ByteArray → Option (ByteArray × ByteArray × Int)
def ct_pack_ReadText (g : G_pack_ReadText) : Ct where
  nin := 0
  mv := []
  F := fun tvs blks {β} K => match tvs, blks with
    | [.v (.one (.d .str a0))], [] => (g a0).bind fun r => K ⟨.tup [(.one (.d .str r.1)), (.one (.d .str r.2.1)), (.one (.d (.int .i64) r.2.2))], []⟩
    | _, _ => none
  legit := fun tvs blks K r h => by
    split at h
    · obtain ⟨x, hx, hk⟩ := Option.bind_eq_some_iff.1 h
      refine ⟨_, ?_, hk⟩
      simp only [hx, Option.bind_some]
    · simp at h
noncomputable def env_pack_ReadText (g58 : G_pack_ReadUint)  : FEnv := { P := Go.Proofs.Tryd.prog, ct := fun m => if m = 58 then some (ct_pack_ReadUint g58) else none, N := 30, body := Go.Proofs.Tryd.f57.body.getD .skip, rvs := [.tmp 2, .tmp 3, .tmp 4], rts := [9, 9, 27], nin := 0, rmv := [], segs := [] }
def pack_ReadText.c {β : Type} (g58 : G_pack_ReadUint)  (a0 : ByteArray) (ret : (ByteArray × ByteArray × Int) → Option β) : Option β := ((g58 a0).bind fun r0 => (bif (r0.2.2 != (0 : Int)) then (ret ((ByteArray.mk (List.toArray [])), (ByteArray.mk (List.toArray [])), r0.2.2)) else (bif (decide (r0.1 > (IntKind.wrap IntKind.u64 ((ByteArray.size r0.2.1) : Int)))) then (ret ((ByteArray.mk (List.toArray [])), (ByteArray.mk (List.toArray [])), (3 : Int))) else (bif ((true && (decide ((0 : Int) ≤ r0.1))) && (decide (r0.1 ≤ ((ByteArray.size r0.2.1) : Int)))) then (bif (((decide ((0 : Int) ≤ r0.1)) && (decide (r0.1 ≤ ((ByteArray.size r0.2.1) : Int)))) && (decide (((ByteArray.size r0.2.1) : Int) ≤ ((ByteArray.size r0.2.1) : Int)))) then (ret ((ByteArray.extract r0.2.1 (0 : Nat) (Int.toNat r0.1)), (ByteArray.extract r0.2.1 (Int.toNat r0.1) (Int.toNat ((ByteArray.size r0.2.1) : Int))), (0 : Int))) else none) else none))))
theorem pack_ReadText.c_bind {β : Type} {g58 : G_pack_ReadUint}  {a0 : ByteArray} {ret : (ByteArray × ByteArray × Int) → Option β} : pack_ReadText.c g58  a0 ret = (pack_ReadText.c g58  a0 some).bind ret := by
  simp only [pack_ReadText.c, bif_bind, sum_bind, Option.bind_assoc, Option.bind_some, Option.bind_none, Option.bind_fun_some]
theorem pack_ReadText.ev {g58 : G_pack_ReadUint}  {a0 : ByteArray} : evAt (env_pack_ReadText g58 ) [] [0] [.v (.one (.d .str a0))] [] some = pack_ReadText.c g58  a0 (fun r => some ⟨.tup [(.one (.d .str r.1)), (.one (.d .str r.2.1)), (.one (.d (.int .i64) r.2.2))], []⟩) := by
  kernel_rfl
def pack_ReadText.f (k : Nat) (a0 : ByteArray) : Option (ByteArray × ByteArray × Int) := pack_ReadText.c (pack_ReadUint.f k)  a0 some
theorem pack_ReadText.is {g58 : G_pack_ReadUint}  : FnIs (env_pack_ReadText g58 ) 57 Go.Proofs.Tryd.f57 := ⟨Go.Proofs.Tryd.func57, rfl, rfl, rfl, by decide⟩
theorem pack_ReadText.envok {g58 : G_pack_ReadUint}  (h58 : CtOK Go.Proofs.Tryd.prog 58 (ct_pack_ReadUint g58)) : EnvOK (env_pack_ReadText g58 ).toEnv := by
  intro f c h
  simp only [env_pack_ReadText] at h
  split at h
  · rename_i e; subst e; cases h; exact h58
  simp at h
noncomputable abbrev pack_ReadText.E (k : Nat) : FEnv := env_pack_ReadText (pack_ReadUint.f k) 
theorem pack_ReadText.hE (k : Nat) : EnvOK (pack_ReadText.E k).toEnv := pack_ReadText.envok (pack_ReadUint.ok k)
theorem pack_ReadText.ok (k : Nat) : CtOK Go.Proofs.Tryd.prog 57 (ct_pack_ReadText (pack_ReadText.f k)) := by
  refine ct_of_ev (E := pack_ReadText.E k) pack_ReadText.is (pack_ReadText.hE k) (fun s hs => by simp [pack_ReadText.E, env_pack_ReadText] at hs) rfl ?_
  intro tvs blks res h
  simp only [ct_pack_ReadText] at h
  split at h
  · exact (pack_ReadText.ev.trans pack_ReadText.c_bind).trans h
  · simp at h

/-! ### schema_reader_text: function 38 -/
abbrev G_schema_reader_text : Type := ByteArray → Int → Option (ByteArray × ByteArray × Int)
def ct_schema_reader_text (g : G_schema_reader_text) : Ct where
  nin := 1
  mv := []
  F := fun tvs blks {β} K => match tvs, blks with
    | [.v (.one (.ptr 0 0))], [.box [(.d .str a0), (.d (.int .i64) a1)]] => (g a0 a1).bind fun r => K ⟨.v (.one (.d .str r.1)), [some (.box [(.d .str r.2.1), (.d (.int .i64) r.2.2)])]⟩
    | _, _ => none
  legit := fun tvs blks K r h => by
    split at h
    · obtain ⟨x, hx, hk⟩ := Option.bind_eq_some_iff.1 h
      refine ⟨_, ?_, hk⟩
      simp only [hx, Option.bind_some]
    · simp at h
noncomputable def env_schema_reader_text (g57 : G_pack_ReadText)  : FEnv := { P := Go.Proofs.Tryd.prog, ct := fun m => if m = 57 then some (ct_pack_ReadText g57) else none, N := 29, body := Go.Proofs.Tryd.f38.body.getD .skip, rvs := [.tmp 2], rts := [9], nin := 1, rmv := [], segs := [] }
def schema_reader_text.c {β : Type} (g57 : G_pack_ReadText)  (a0 : ByteArray) (a1 : Int) (ret : (ByteArray × ByteArray × Int) → Option β) : Option β := (bif (a1 != (0 : Int)) then (ret ((ByteArray.mk (List.toArray [])), a0, a1)) else ((g57 a0).bind fun r0 => (ret (r0.1, r0.2.1, r0.2.2))))
theorem schema_reader_text.c_bind {β : Type} {g57 : G_pack_ReadText}  {a0 : ByteArray} {a1 : Int} {ret : (ByteArray × ByteArray × Int) → Option β} : schema_reader_text.c g57  a0 a1 ret = (schema_reader_text.c g57  a0 a1 some).bind ret := by
  simp only [schema_reader_text.c, bif_bind, sum_bind, Option.bind_assoc, Option.bind_some, Option.bind_none, Option.bind_fun_some]
theorem schema_reader_text.ev {g57 : G_pack_ReadText}  {a0 : ByteArray} {a1 : Int} : evAt (env_schema_reader_text g57 ) [] [0] [.v (.one (.ptr 0 0))] [some (.box [(.d .str a0), (.d (.int .i64) a1)])] some = schema_reader_text.c g57  a0 a1 (fun r => some ⟨.v (.one (.d .str r.1)), [some (.box [(.d .str r.2.1), (.d (.int .i64) r.2.2)])]⟩) := by
  kernel_rfl
def schema_reader_text.f (k : Nat) (a0 : ByteArray) (a1 : Int) : Option (ByteArray × ByteArray × Int) := schema_reader_text.c (pack_ReadText.f k)  a0 a1 some
theorem schema_reader_text.is {g57 : G_pack_ReadText}  : FnIs (env_schema_reader_text g57 ) 38 Go.Proofs.Tryd.f38 := ⟨Go.Proofs.Tryd.func38, rfl, rfl, rfl, by decide⟩
theorem schema_reader_text.envok {g57 : G_pack_ReadText}  (h57 : CtOK Go.Proofs.Tryd.prog 57 (ct_pack_ReadText g57)) : EnvOK (env_schema_reader_text g57 ).toEnv := by
  intro f c h
  simp only [env_schema_reader_text] at h
  split at h
  · rename_i e; subst e; cases h; exact h57
  simp at h
noncomputable abbrev schema_reader_text.E (k : Nat) : FEnv := env_schema_reader_text (pack_ReadText.f k) 
theorem schema_reader_text.hE (k : Nat) : EnvOK (schema_reader_text.E k).toEnv := schema_reader_text.envok (pack_ReadText.ok k)
theorem schema_reader_text.ok (k : Nat) : CtOK Go.Proofs.Tryd.prog 38 (ct_schema_reader_text (schema_reader_text.f k)) := by
  refine ct_of_ev (E := schema_reader_text.E k) schema_reader_text.is (schema_reader_text.hE k) (fun s hs => by simp [schema_reader_text.E, env_schema_reader_text] at hs) rfl ?_
  intro tvs blks res h
  simp only [ct_schema_reader_text] at h
  split at h
  · exact (schema_reader_text.ev.trans schema_reader_text.c_bind).trans h
  · simp at h
end Go.Proofs.YtddlebbjaadbeaaDoor.Aev
