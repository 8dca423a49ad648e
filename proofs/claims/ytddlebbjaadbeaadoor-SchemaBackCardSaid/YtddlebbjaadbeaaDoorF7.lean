/- By a program of this session (AEV): functions of the program as plain functions, and that the machine does what they say. -/
import Derived.Test.YtddlebbjaadbeaaDoorTys
import Derived.Test.YtddlebbjaadbeaaDoorProg
import Derived.Laws.Externs
import Derived.Lib.Bytealg
import Derived.Test.YtddlebbjaadbeaaDoorF6
namespace Go.Proofs.YtddlebbjaadbeaaDoor.Aev
set_option linter.unusedVariables false
set_option linter.unusedSimpArgs false
set_option maxRecDepth 100000
set_option maxHeartbeats 4000000
open Go
/-! ### schema_reader_fail: function 42 -/
abbrev G_schema_reader_fail : Type := Int → ByteArray → Int → Option (ByteArray × Int)
def ct_schema_reader_fail (g : G_schema_reader_fail) : Ct where
  nin := 1
  mv := []
  F := fun tvs blks {β} K => match tvs, blks with
    | [.v (.one (.ptr 0 0)), .v (.one (.d (.int .i64) a0))], [.box [(.d .str a1), (.d (.int .i64) a2)]] => (g a0 a1 a2).bind fun r => K ⟨.tup [], [some (.box [(.d .str r.1), (.d (.int .i64) r.2)])]⟩
    | _, _ => none
  legit := fun tvs blks K r h => by
    split at h
    · obtain ⟨x, hx, hk⟩ := Option.bind_eq_some_iff.1 h
      refine ⟨_, ?_, hk⟩
      simp only [hx, Option.bind_some]
    · simp at h
noncomputable def env_schema_reader_fail   : FEnv := { P := Go.Proofs.Tryd.prog, ct := fun m => none, N := 13, body := Go.Proofs.Tryd.f42.body.getD .skip, rvs := [], rts := [], nin := 1, rmv := [], segs := [] }
def schema_reader_fail.c {β : Type}   (a0 : Int) (a1 : ByteArray) (a2 : Int) (ret : (ByteArray × Int) → Option β) : Option β := (bif (a2 == (0 : Int)) then (ret (a1, a0)) else (ret (a1, a2)))
theorem schema_reader_fail.c_bind {β : Type}   {a0 : Int} {a1 : ByteArray} {a2 : Int} {ret : (ByteArray × Int) → Option β} : schema_reader_fail.c   a0 a1 a2 ret = (schema_reader_fail.c   a0 a1 a2 some).bind ret := by
  simp only [schema_reader_fail.c, bif_bind, sum_bind, Option.bind_assoc, Option.bind_some, Option.bind_none, Option.bind_fun_some]
theorem schema_reader_fail.ev   {a0 : Int} {a1 : ByteArray} {a2 : Int} : evAt (env_schema_reader_fail  ) [] [0, 1] [.v (.one (.ptr 0 0)), .v (.one (.d (.int .i64) a0))] [some (.box [(.d .str a1), (.d (.int .i64) a2)])] some = schema_reader_fail.c   a0 a1 a2 (fun r => some ⟨.tup [], [some (.box [(.d .str r.1), (.d (.int .i64) r.2)])]⟩) := by
  kernel_rfl
def schema_reader_fail.f (k : Nat) (a0 : Int) (a1 : ByteArray) (a2 : Int) : Option (ByteArray × Int) := schema_reader_fail.c   a0 a1 a2 some
theorem schema_reader_fail.is   : FnIs (env_schema_reader_fail  ) 42 Go.Proofs.Tryd.f42 := ⟨Go.Proofs.Tryd.func42, rfl, rfl, rfl, by decide⟩
theorem schema_reader_fail.envok    : EnvOK (env_schema_reader_fail  ).toEnv := by
  intro f c h
  simp only [env_schema_reader_fail] at h
  simp at h
noncomputable abbrev schema_reader_fail.E (k : Nat) : FEnv := env_schema_reader_fail  
theorem schema_reader_fail.hE (k : Nat) : EnvOK (schema_reader_fail.E k).toEnv := schema_reader_fail.envok 
theorem schema_reader_fail.ok (k : Nat) : CtOK Go.Proofs.Tryd.prog 42 (ct_schema_reader_fail (schema_reader_fail.f k)) := by
  refine ct_of_ev (E := schema_reader_fail.E k) schema_reader_fail.is (schema_reader_fail.hE k) (fun s hs => by simp [schema_reader_fail.E, env_schema_reader_fail] at hs) rfl ?_
  intro tvs blks res h
  simp only [ct_schema_reader_fail] at h
  split at h
  · exact (schema_reader_fail.ev.trans schema_reader_fail.c_bind).trans h
  · simp at h

/-! ### schema_reader_uint: function 39 -/
abbrev G_schema_reader_uint : Type := Int → Int → ByteArray → Int → Option (Int × ByteArray × Int)
def ct_schema_reader_uint (g : G_schema_reader_uint) : Ct where
  nin := 1
  mv := []
  F := fun tvs blks {β} K => match tvs, blks with
    | [.v (.one (.ptr 0 0)), .v (.one (.d (.int .u64) a0)), .v (.one (.d (.int .i64) a1))], [.box [(.d .str a2), (.d (.int .i64) a3)]] => (g a0 a1 a2 a3).bind fun r => K ⟨.v (.one (.d (.int .i64) r.1)), [some (.box [(.d .str r.2.1), (.d (.int .i64) r.2.2)])]⟩
    | _, _ => none
  legit := fun tvs blks K r h => by
    split at h
    · obtain ⟨x, hx, hk⟩ := Option.bind_eq_some_iff.1 h
      refine ⟨_, ?_, hk⟩
      simp only [hx, Option.bind_some]
    · simp at h
noncomputable def env_schema_reader_uint (g42 : G_schema_reader_fail) (g58 : G_pack_ReadUint)  : FEnv := { P := Go.Proofs.Tryd.prog, ct := fun m => if m = 42 then some (ct_schema_reader_fail g42) else if m = 58 then some (ct_pack_ReadUint g58) else none, N := 40, body := Go.Proofs.Tryd.f39.body.getD .skip, rvs := [.tmp 6], rts := [3], nin := 1, rmv := [], segs := [] }
def schema_reader_uint.c {β : Type} (g42 : G_schema_reader_fail) (g58 : G_pack_ReadUint)  (a0 : Int) (a1 : Int) (a2 : ByteArray) (a3 : Int) (ret : (Int × ByteArray × Int) → Option β) : Option β := (bif (a3 != (0 : Int)) then (ret ((0 : Int), a2, a3)) else ((g58 a2).bind fun r0 => (bif (decide (r0.1 > a0)) then ((g42 a1 r0.2.1 r0.2.2).bind fun r1 => (ret ((0 : Int), r1.1, r1.2))) else (ret ((IntKind.wrap IntKind.i64 r0.1), r0.2.1, r0.2.2)))))
theorem schema_reader_uint.c_bind {β : Type} {g42 : G_schema_reader_fail} {g58 : G_pack_ReadUint}  {a0 : Int} {a1 : Int} {a2 : ByteArray} {a3 : Int} {ret : (Int × ByteArray × Int) → Option β} : schema_reader_uint.c g42 g58  a0 a1 a2 a3 ret = (schema_reader_uint.c g42 g58  a0 a1 a2 a3 some).bind ret := by
  simp only [schema_reader_uint.c, bif_bind, sum_bind, Option.bind_assoc, Option.bind_some, Option.bind_none, Option.bind_fun_some]
theorem schema_reader_uint.ev {g42 : G_schema_reader_fail} {g58 : G_pack_ReadUint}  {a0 : Int} {a1 : Int} {a2 : ByteArray} {a3 : Int} : evAt (env_schema_reader_uint g42 g58 ) [] [0, 1, 2] [.v (.one (.ptr 0 0)), .v (.one (.d (.int .u64) a0)), .v (.one (.d (.int .i64) a1))] [some (.box [(.d .str a2), (.d (.int .i64) a3)])] some = schema_reader_uint.c g42 g58  a0 a1 a2 a3 (fun r => some ⟨.v (.one (.d (.int .i64) r.1)), [some (.box [(.d .str r.2.1), (.d (.int .i64) r.2.2)])]⟩) := by
  kernel_rfl
def schema_reader_uint.f (k : Nat) (a0 : Int) (a1 : Int) (a2 : ByteArray) (a3 : Int) : Option (Int × ByteArray × Int) := schema_reader_uint.c (schema_reader_fail.f k) (pack_ReadUint.f k)  a0 a1 a2 a3 some
theorem schema_reader_uint.is {g42 : G_schema_reader_fail} {g58 : G_pack_ReadUint}  : FnIs (env_schema_reader_uint g42 g58 ) 39 Go.Proofs.Tryd.f39 := ⟨Go.Proofs.Tryd.func39, rfl, rfl, rfl, by decide⟩
theorem schema_reader_uint.envok {g42 : G_schema_reader_fail} {g58 : G_pack_ReadUint}  (h42 : CtOK Go.Proofs.Tryd.prog 42 (ct_schema_reader_fail g42)) (h58 : CtOK Go.Proofs.Tryd.prog 58 (ct_pack_ReadUint g58)) : EnvOK (env_schema_reader_uint g42 g58 ).toEnv := by
  intro f c h
  simp only [env_schema_reader_uint] at h
  split at h
  · rename_i e; subst e; cases h; exact h42
  split at h
  · rename_i e; subst e; cases h; exact h58
  simp at h
noncomputable abbrev schema_reader_uint.E (k : Nat) : FEnv := env_schema_reader_uint (schema_reader_fail.f k) (pack_ReadUint.f k) 
theorem schema_reader_uint.hE (k : Nat) : EnvOK (schema_reader_uint.E k).toEnv := schema_reader_uint.envok (schema_reader_fail.ok k) (pack_ReadUint.ok k)
theorem schema_reader_uint.ok (k : Nat) : CtOK Go.Proofs.Tryd.prog 39 (ct_schema_reader_uint (schema_reader_uint.f k)) := by
  refine ct_of_ev (E := schema_reader_uint.E k) schema_reader_uint.is (schema_reader_uint.hE k) (fun s hs => by simp [schema_reader_uint.E, env_schema_reader_uint] at hs) rfl ?_
  intro tvs blks res h
  simp only [ct_schema_reader_uint] at h
  split at h
  · exact (schema_reader_uint.ev.trans schema_reader_uint.c_bind).trans h
  · simp at h

/-! ### schema_reader_flag: function 40 -/
abbrev G_schema_reader_flag : Type := ByteArray → Int → Option (Bool × ByteArray × Int)
def ct_schema_reader_flag (g : G_schema_reader_flag) : Ct where
  nin := 1
  mv := []
  F := fun tvs blks {β} K => match tvs, blks with
    | [.v (.one (.ptr 0 0))], [.box [(.d .str a0), (.d (.int .i64) a1)]] => (g a0 a1).bind fun r => K ⟨.v (.one (.d .bool r.1)), [some (.box [(.d .str r.2.1), (.d (.int .i64) r.2.2)])]⟩
    | _, _ => none
  legit := fun tvs blks K r h => by
    split at h
    · obtain ⟨x, hx, hk⟩ := Option.bind_eq_some_iff.1 h
      refine ⟨_, ?_, hk⟩
      simp only [hx, Option.bind_some]
    · simp at h
noncomputable def env_schema_reader_flag (g42 : G_schema_reader_fail)  : FEnv := { P := Go.Proofs.Tryd.prog, ct := fun m => if m = 42 then some (ct_schema_reader_fail g42) else none, N := 42, body := Go.Proofs.Tryd.f40.body.getD .skip, rvs := [.tmp 2], rts := [4], nin := 1, rmv := [], segs := [] }
def schema_reader_flag.c {β : Type} (g42 : G_schema_reader_fail)  (a0 : ByteArray) (a1 : Int) (ret : (Bool × ByteArray × Int) → Option β) : Option β := (bif (a1 != (0 : Int)) then (ret (false, a0, a1)) else (bif ((ByteArray.toList a0) == (ByteArray.toList (ByteArray.mk (List.toArray [])))) then ((g42 (3 : Int) a0 a1).bind fun r0 => (ret (false, r0.1, r0.2))) else (bif (true && (decide ((0 : Int) < ((ByteArray.size a0) : Int)))) then (bif (decide ((bt a0 (0 : Int)) > (1 : Int))) then ((g42 (4 : Int) a0 a1).bind fun r1 => (ret (false, r1.1, r1.2))) else (bif (true && (decide ((0 : Int) < ((ByteArray.size a0) : Int)))) then (bif ((true && (decide ((1 : Int) ≤ ((ByteArray.size a0) : Int)))) && (decide (((ByteArray.size a0) : Int) ≤ ((ByteArray.size a0) : Int)))) then (ret (((bt a0 (0 : Int)) == (1 : Int)), (ByteArray.extract a0 (1 : Nat) (Int.toNat ((ByteArray.size a0) : Int))), a1)) else none) else none)) else none)))
theorem schema_reader_flag.c_bind {β : Type} {g42 : G_schema_reader_fail}  {a0 : ByteArray} {a1 : Int} {ret : (Bool × ByteArray × Int) → Option β} : schema_reader_flag.c g42  a0 a1 ret = (schema_reader_flag.c g42  a0 a1 some).bind ret := by
  simp only [schema_reader_flag.c, bif_bind, sum_bind, Option.bind_assoc, Option.bind_some, Option.bind_none, Option.bind_fun_some]
theorem schema_reader_flag.ev {g42 : G_schema_reader_fail}  {a0 : ByteArray} {a1 : Int} : evAt (env_schema_reader_flag g42 ) [] [0] [.v (.one (.ptr 0 0))] [some (.box [(.d .str a0), (.d (.int .i64) a1)])] some = schema_reader_flag.c g42  a0 a1 (fun r => some ⟨.v (.one (.d .bool r.1)), [some (.box [(.d .str r.2.1), (.d (.int .i64) r.2.2)])]⟩) := by
  kernel_rfl
def schema_reader_flag.f (k : Nat) (a0 : ByteArray) (a1 : Int) : Option (Bool × ByteArray × Int) := schema_reader_flag.c (schema_reader_fail.f k)  a0 a1 some
theorem schema_reader_flag.is {g42 : G_schema_reader_fail}  : FnIs (env_schema_reader_flag g42 ) 40 Go.Proofs.Tryd.f40 := ⟨Go.Proofs.Tryd.func40, rfl, rfl, rfl, by decide⟩
theorem schema_reader_flag.envok {g42 : G_schema_reader_fail}  (h42 : CtOK Go.Proofs.Tryd.prog 42 (ct_schema_reader_fail g42)) : EnvOK (env_schema_reader_flag g42 ).toEnv := by
  intro f c h
  simp only [env_schema_reader_flag] at h
  split at h
  · rename_i e; subst e; cases h; exact h42
  simp at h
noncomputable abbrev schema_reader_flag.E (k : Nat) : FEnv := env_schema_reader_flag (schema_reader_fail.f k) 
theorem schema_reader_flag.hE (k : Nat) : EnvOK (schema_reader_flag.E k).toEnv := schema_reader_flag.envok (schema_reader_fail.ok k)
theorem schema_reader_flag.ok (k : Nat) : CtOK Go.Proofs.Tryd.prog 40 (ct_schema_reader_flag (schema_reader_flag.f k)) := by
  refine ct_of_ev (E := schema_reader_flag.E k) schema_reader_flag.is (schema_reader_flag.hE k) (fun s hs => by simp [schema_reader_flag.E, env_schema_reader_flag] at hs) rfl ?_
  intro tvs blks res h
  simp only [ct_schema_reader_flag] at h
  split at h
  · exact (schema_reader_flag.ev.trans schema_reader_flag.c_bind).trans h
  · simp at h

/-! ### keycode_need: function 75 -/
abbrev G_keycode_need : Type := Int → Option Int
def ct_keycode_need (g : G_keycode_need) : Ct where
  nin := 0
  mv := []
  F := fun tvs blks {β} K => match tvs, blks with
    | [.v (.one (.d (.int .i64) a0))], [] => (g a0).bind fun r => K ⟨.v (.one (.d (.int .i64) r)), []⟩
    | _, _ => none
  legit := fun tvs blks K r h => by
    split at h
    · obtain ⟨x, hx, hk⟩ := Option.bind_eq_some_iff.1 h
      refine ⟨_, ?_, hk⟩
      simp only [hx, Option.bind_some]
    · simp at h
noncomputable def env_keycode_need   : FEnv := { P := Go.Proofs.Tryd.prog, ct := fun m => none, N := 9, body := Go.Proofs.Tryd.f75.body.getD .skip, rvs := [.tmp 2], rts := [3], nin := 0, rmv := [], segs := [] }
def keycode_need.c {β : Type}   (a0 : Int) (ret : Int → Option β) : Option β := (bif (a0 == (1 : Int)) then (ret ((1 : Int))) else (bif (a0 == (2 : Int)) then (bif (a0 == (2 : Int)) then (ret ((8 : Int))) else (ret ((0 : Int)))) else (bif (a0 == (3 : Int)) then (ret ((8 : Int))) else (ret ((0 : Int))))))
theorem keycode_need.c_bind {β : Type}   {a0 : Int} {ret : Int → Option β} : keycode_need.c   a0 ret = (keycode_need.c   a0 some).bind ret := by
  simp only [keycode_need.c, bif_bind, sum_bind, Option.bind_assoc, Option.bind_some, Option.bind_none, Option.bind_fun_some]
theorem keycode_need.ev   {a0 : Int} : evAt (env_keycode_need  ) [] [0] [.v (.one (.d (.int .i64) a0))] [] some = keycode_need.c   a0 (fun r => some ⟨.v (.one (.d (.int .i64) r)), []⟩) := by
  kernel_rfl
def keycode_need.f (k : Nat) (a0 : Int) : Option Int := keycode_need.c   a0 some
theorem keycode_need.is   : FnIs (env_keycode_need  ) 75 Go.Proofs.Tryd.f75 := ⟨Go.Proofs.Tryd.func75, rfl, rfl, rfl, by decide⟩
theorem keycode_need.envok    : EnvOK (env_keycode_need  ).toEnv := by
  intro f c h
  simp only [env_keycode_need] at h
  simp at h
noncomputable abbrev keycode_need.E (k : Nat) : FEnv := env_keycode_need  
theorem keycode_need.hE (k : Nat) : EnvOK (keycode_need.E k).toEnv := keycode_need.envok 
theorem keycode_need.ok (k : Nat) : CtOK Go.Proofs.Tryd.prog 75 (ct_keycode_need (keycode_need.f k)) := by
  refine ct_of_ev (E := keycode_need.E k) keycode_need.is (keycode_need.hE k) (fun s hs => by simp [keycode_need.E, env_keycode_need] at hs) rfl ?_
  intro tvs blks res h
  simp only [ct_keycode_need] at h
  split at h
  · exact (keycode_need.ev.trans keycode_need.c_bind).trans h
  · simp at h

/-! ### keycode_get8: function 76 -/
abbrev G_keycode_get8 : Type := ByteArray → Option Int
def ct_keycode_get8 (g : G_keycode_get8) : Ct where
  nin := 0
  mv := []
  F := fun tvs blks {β} K => match tvs, blks with
    | [.v (.one (.d .str a0))], [] => (g a0).bind fun r => K ⟨.v (.one (.d (.int .u64) r)), []⟩
    | _, _ => none
  legit := fun tvs blks K r h => by
    split at h
    · obtain ⟨x, hx, hk⟩ := Option.bind_eq_some_iff.1 h
      refine ⟨_, ?_, hk⟩
      simp only [hx, Option.bind_some]
    · simp at h
abbrev S_keycode_get8_0 : Type := ByteArray → Int → Int → Option Int
def seg_keycode_get8_0 (g : S_keycode_get8_0) : Seg where
  path := [4, 1, 0, 1, 1]
  prep := []
  keep := [0, 3, 5]
  F := fun tvs blks {β} K => match tvs, blks with
    | [.v (.one (.d .str x0)), .v (.one (.d (.int .u64) x1)), .v (.one (.d (.int .i64) x2))], [] => (g x0 x1 x2).bind fun r => K ⟨.v (.one (.d (.int .u64) r)), []⟩
    | _, _ => none
  legit := fun tvs blks K r h => by
    split at h
    · obtain ⟨x, hx, hk⟩ := Option.bind_eq_some_iff.1 h
      refine ⟨_, ?_, hk⟩
      simp only [hx, Option.bind_some]
    · simp at h
noncomputable def env_keycode_get8  (s0 : S_keycode_get8_0) : FEnv := { P := Go.Proofs.Tryd.prog, ct := fun m => none, N := 17, body := Go.Proofs.Tryd.f76.body.getD .skip, rvs := [.tmp 2], rts := [29], nin := 0, rmv := [], segs := [seg_keycode_get8_0 s0] }
def keycode_get8.c {β : Type}  (s0 : S_keycode_get8_0) (a0 : ByteArray) (ret : Int → Option β) : Option β := ((s0 a0 (0 : Int) (0 : Int)).bind ret)
def keycode_get8.s0c {β : Type}  (s0 : S_keycode_get8_0) (x0 : ByteArray) (x1 : Int) (x2 : Int) (ret : Int → Option β) : Option β := (bif (decide (x2 < (8 : Int))) then (bif ((decide ((0 : Int) ≤ x2)) && (decide (x2 < ((ByteArray.size x0) : Int)))) then ((s0 x0 (IntKind.wrap IntKind.u64 ((BitVec.toNat ((BitVec.ofInt (64 : Nat) (IntKind.wrap IntKind.u64 (x1 * (256 : Int)))) ||| (BitVec.ofInt (64 : Nat) (IntKind.wrap IntKind.u64 (bt x0 x2))))) : Int)) (IntKind.wrap IntKind.i64 (x2 + (1 : Int)))).bind ret) else none) else (ret (x1)))
theorem keycode_get8.c_bind {β : Type}  {s0 : S_keycode_get8_0} {a0 : ByteArray} {ret : Int → Option β} : keycode_get8.c  s0 a0 ret = (keycode_get8.c  s0 a0 some).bind ret := by
  simp only [keycode_get8.c, bif_bind, sum_bind, Option.bind_assoc, Option.bind_some, Option.bind_none, Option.bind_fun_some]
theorem keycode_get8.s0c_bind {β : Type}  {s0 : S_keycode_get8_0} {x0 : ByteArray} {x1 : Int} {x2 : Int} {ret : Int → Option β} : keycode_get8.s0c  s0 x0 x1 x2 ret = (keycode_get8.s0c  s0 x0 x1 x2 some).bind ret := by
  simp only [keycode_get8.s0c, bif_bind, sum_bind, Option.bind_assoc, Option.bind_some, Option.bind_none, Option.bind_fun_some]
theorem keycode_get8.ev  {s0 : S_keycode_get8_0} {a0 : ByteArray} : evAt (env_keycode_get8  s0) [] [0] [.v (.one (.d .str a0))] [] some = keycode_get8.c  s0 a0 (fun r => some ⟨.v (.one (.d (.int .u64) r)), []⟩) := by
  kernel_rfl
theorem keycode_get8.s0_ev  {s0 : S_keycode_get8_0} {x0 : ByteArray} {x1 : Int} {x2 : Int} : evAt (env_keycode_get8  s0) [4, 1, 0, 1, 1] [0, 3, 5] [.v (.one (.d .str x0)), .v (.one (.d (.int .u64) x1)), .v (.one (.d (.int .i64) x2))] [] some = keycode_get8.s0c  s0 x0 x1 x2 (fun r => some ⟨.v (.one (.d (.int .u64) r)), []⟩) := by
  kernel_rfl
def keycode_get8.s0 : Nat → ByteArray → Int → Int → Option Int
  | 0, _, _, _ => none
  | k + 1, x0, x1, x2 => keycode_get8.s0c  (keycode_get8.s0 k) x0 x1 x2 some
def keycode_get8.f (k : Nat) (a0 : ByteArray) : Option Int := keycode_get8.c  (keycode_get8.s0 k) a0 some
theorem keycode_get8.is  {s0 : S_keycode_get8_0} : FnIs (env_keycode_get8  s0) 76 Go.Proofs.Tryd.f76 := ⟨Go.Proofs.Tryd.func76, rfl, rfl, rfl, by decide⟩
theorem keycode_get8.envok  {s0 : S_keycode_get8_0}  : EnvOK (env_keycode_get8  s0).toEnv := by
  intro f c h
  simp only [env_keycode_get8] at h
  simp at h
noncomputable abbrev keycode_get8.E (k : Nat) : FEnv := env_keycode_get8  (keycode_get8.s0 k)
theorem keycode_get8.hE (k : Nat) : EnvOK (keycode_get8.E k).toEnv := keycode_get8.envok 
theorem keycode_get8.segs_ok : ∀ k, ∀ s ∈ (keycode_get8.E k).segs, SegOK (keycode_get8.E k) Go.Proofs.Tryd.f76 s
  | 0 => by
    intro s hs
    simp only [keycode_get8.E, env_keycode_get8, List.mem_cons, List.not_mem_nil, or_false] at hs
    rcases hs with rfl
    · intro tvs blks res h; exfalso; simp only [seg_keycode_get8_0] at h; split at h <;> simp [keycode_get8.s0] at h
  | k + 1 => by
    intro s hs
    simp only [keycode_get8.E, env_keycode_get8, List.mem_cons, List.not_mem_nil, or_false] at hs
    rcases hs with rfl
    · refine seg_of_ev (E := keycode_get8.E k) (keycode_get8.hE k) ⟨keycode_get8.is.rvs⟩ (keycode_get8.segs_ok k) ?_
      intro tvs blks res h
      simp only [seg_keycode_get8_0] at h
      split at h
      · exact (keycode_get8.s0_ev.trans keycode_get8.s0c_bind).trans h
      · simp at h
theorem keycode_get8.ok (k : Nat) : CtOK Go.Proofs.Tryd.prog 76 (ct_keycode_get8 (keycode_get8.f k)) := by
  refine ct_of_ev (E := keycode_get8.E k) keycode_get8.is (keycode_get8.hE k) (keycode_get8.segs_ok k) rfl ?_
  intro tvs blks res h
  simp only [ct_keycode_get8] at h
  split at h
  · exact (keycode_get8.ev.trans keycode_get8.c_bind).trans h
  · simp at h
end Go.Proofs.YtddlebbjaadbeaaDoor.Aev
