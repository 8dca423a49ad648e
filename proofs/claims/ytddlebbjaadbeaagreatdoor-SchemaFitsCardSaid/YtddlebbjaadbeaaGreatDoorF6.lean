/- By a program of this session (AEV): functions of the program as plain functions, and that the machine does what they say. -/
import Derived.Test.YtddlebbjaadbeaaGreatDoorTys
import Derived.Test.YtddlebbjaadbeaaGreatDoorProg
import Derived.Laws.Externs
import Derived.Lib.Bytealg
import Derived.Test.YtddlebbjaadbeaaGreatDoorF2
import Derived.Test.YtddlebbjaadbeaaGreatDoorF4
import Derived.Test.YtddlebbjaadbeaaGreatDoorF5
namespace Go.Proofs.YtddlebbjaadbeaaGreatDoor.Aev
set_option linter.unusedVariables false
set_option linter.unusedSimpArgs false
set_option maxRecDepth 100000
set_option maxHeartbeats 4000000
open Go
/-! ### schema_FitsKey: function 12 -/
abbrev G_schema_FitsKey : Type := ByteArray → Int → (List D_api_Col) → (List D_api_Value) → Bool → Option Int
def ct_schema_FitsKey (g : G_schema_FitsKey) : Ct where
  nin := 0
  mv := []
  F := fun tvs blks {β} K => match tvs, blks with
    | [.v (.agg [(.d .str a0), (.d (.int .i64) a1), (.d (.sl (.pair .str (.pair (.int .i64) (.pair .bool (.pair (.pair (.int .i64) (.pair (.int .i64) (.pair (.int .u64) (.pair .str .unit)))) .unit))))) a2)]), .v (.one (.d (.sl (.pair (.int .i64) (.pair (.int .i64) (.pair (.int .u64) (.pair .str .unit))))) a3)), .v (.one (.d .bool a4))], [] => (g a0 a1 a2 a3 a4).bind fun r => K ⟨.v (.one (.d (.int .i64) r)), []⟩
    | _, _ => none
  legit := fun tvs blks K r h => by
    split at h
    · obtain ⟨x, hx, hk⟩ := Option.bind_eq_some_iff.1 h
      refine ⟨_, ?_, hk⟩
      simp only [hx, Option.bind_some]
    · simp at h
noncomputable def env_schema_FitsKey (g22 : G_schema_Check) (g27 : G_schema_fits)  : FEnv := { P := Go.Proofs.Tryz.prog, ct := fun m => if m = 22 then some (ct_schema_Check g22) else if m = 27 then some (ct_schema_fits g27) else none, N := 32, body := Go.Proofs.Tryz.f12.body.getD .skip, rvs := [.tmp 6], rts := [29], nin := 0, rmv := [], segs := [] }
def schema_FitsKey.c {β : Type} (g22 : G_schema_Check) (g27 : G_schema_fits)  (a0 : ByteArray) (a1 : Int) (a2 : List D_api_Col) (a3 : List D_api_Value) (a4 : Bool) (ret : Int → Option β) : Option β := ((g22 a0 a1 a2).bind fun r0 => (bif (r0 != (0 : Int)) then (ret (r0)) else (bif (decide (((List.length a3) : Int) > a1)) then (ret ((11 : Int))) else (bif a4 then (bif (decide (((List.length a3) : Int) < a1)) then (ret ((11 : Int))) else ((g27 a0 a1 a2 a3).bind fun r1 => (ret (r1)))) else ((g27 a0 a1 a2 a3).bind fun r2 => (ret (r2)))))))
theorem schema_FitsKey.c_bind {β : Type} {g22 : G_schema_Check} {g27 : G_schema_fits}  {a0 : ByteArray} {a1 : Int} {a2 : List D_api_Col} {a3 : List D_api_Value} {a4 : Bool} {ret : Int → Option β} : schema_FitsKey.c g22 g27  a0 a1 a2 a3 a4 ret = (schema_FitsKey.c g22 g27  a0 a1 a2 a3 a4 some).bind ret := by
  simp only [schema_FitsKey.c, bif_bind, sum_bind, Option.bind_assoc, Option.bind_some, Option.bind_none, Option.bind_fun_some]
theorem schema_FitsKey.ev {g22 : G_schema_Check} {g27 : G_schema_fits}  {a0 : ByteArray} {a1 : Int} {a2 : List D_api_Col} {a3 : List D_api_Value} {a4 : Bool} : evAt (env_schema_FitsKey g22 g27 ) [] [0, 1, 2] [.v (.agg [(.d .str a0), (.d (.int .i64) a1), (.d (.sl T_api_Col) a2)]), .v (.one (.d (.sl T_api_Value) a3)), .v (.one (.d .bool a4))] [] some = schema_FitsKey.c g22 g27  a0 a1 a2 a3 a4 (fun r => some ⟨.v (.one (.d (.int .i64) r)), []⟩) := by
  kernel_rfl
def schema_FitsKey.f (k : Nat) (a0 : ByteArray) (a1 : Int) (a2 : List D_api_Col) (a3 : List D_api_Value) (a4 : Bool) : Option Int := schema_FitsKey.c (schema_Check.f k) (schema_fits.f k)  a0 a1 a2 a3 a4 some
theorem schema_FitsKey.is {g22 : G_schema_Check} {g27 : G_schema_fits}  : FnIs (env_schema_FitsKey g22 g27 ) 12 Go.Proofs.Tryz.f12 := ⟨Go.Proofs.Tryz.func12, rfl, rfl, rfl, by decide⟩
theorem schema_FitsKey.envok {g22 : G_schema_Check} {g27 : G_schema_fits}  (h22 : CtOK Go.Proofs.Tryz.prog 22 (ct_schema_Check g22)) (h27 : CtOK Go.Proofs.Tryz.prog 27 (ct_schema_fits g27)) : EnvOK (env_schema_FitsKey g22 g27 ).toEnv := by
  intro f c h
  simp only [env_schema_FitsKey] at h
  split at h
  · rename_i e; subst e; cases h; exact h22
  split at h
  · rename_i e; subst e; cases h; exact h27
  simp at h
noncomputable abbrev schema_FitsKey.E (k : Nat) : FEnv := env_schema_FitsKey (schema_Check.f k) (schema_fits.f k) 
theorem schema_FitsKey.hE (k : Nat) : EnvOK (schema_FitsKey.E k).toEnv := schema_FitsKey.envok (schema_Check.ok k) (schema_fits.ok k)
theorem schema_FitsKey.ok (k : Nat) : CtOK Go.Proofs.Tryz.prog 12 (ct_schema_FitsKey (schema_FitsKey.f k)) := by
  refine ct_of_ev (E := schema_FitsKey.E k) schema_FitsKey.is (schema_FitsKey.hE k) (fun s hs => by simp [schema_FitsKey.E, env_schema_FitsKey] at hs) rfl ?_
  intro tvs blks res h
  simp only [ct_schema_FitsKey] at h
  split at h
  · exact (schema_FitsKey.ev.trans schema_FitsKey.c_bind).trans h
  · simp at h

/-! ### pack_Uint: function 31 -/
abbrev G_pack_Uint : Type := Int → Option ByteArray
def ct_pack_Uint (g : G_pack_Uint) : Ct where
  nin := 0
  mv := []
  F := fun tvs blks {β} K => match tvs, blks with
    | [.v (.one (.d (.int .u64) a0))], [] => (g a0).bind fun r => K ⟨.v (.one (.d .str r)), []⟩
    | _, _ => none
  legit := fun tvs blks K r h => by
    split at h
    · obtain ⟨x, hx, hk⟩ := Option.bind_eq_some_iff.1 h
      refine ⟨_, ?_, hk⟩
      simp only [hx, Option.bind_some]
    · simp at h
abbrev S_pack_Uint_0 : Type := Int → (List Int) → Option ByteArray
def seg_pack_Uint_0 (g : S_pack_Uint_0) : Seg where
  path := [4, 0, 1, 1]
  prep := [.own 3 (.int .u8)]
  keep := [0, 3]
  F := fun tvs blks {β} K => match tvs, blks with
    | [.v (.one (.d (.int .u64) x0)), .v (.one (.own 0))], [some (.own (.int .u8) false x1)] => (g x0 x1).bind fun r => K ⟨.v (.one (.d .str r)), []⟩
    | _, _ => none
  legit := fun tvs blks K r h => by
    split at h
    · obtain ⟨x, hx, hk⟩ := Option.bind_eq_some_iff.1 h
      refine ⟨_, ?_, hk⟩
      simp only [hx, Option.bind_some]
    · simp at h
noncomputable def env_pack_Uint  (s0 : S_pack_Uint_0) : FEnv := { P := Go.Proofs.Tryz.prog, ct := fun m => none, N := 20, body := Go.Proofs.Tryz.f31.body.getD .skip, rvs := [.tmp 2], rts := [9], nin := 0, rmv := [], segs := [seg_pack_Uint_0 s0] }
def pack_Uint.c {β : Type}  (s0 : S_pack_Uint_0) (a0 : Int) (ret : ByteArray → Option β) : Option β := ((s0 a0 []).bind ret)
def pack_Uint.s0c {β : Type}  (s0 : S_pack_Uint_0) (x0 : Int) (x1 : List Int) (ret : ByteArray → Option β) : Option β := (bif (decide (x0 > (127 : Int))) then (bif (decide ((((List.length x1) + (1 : Nat)) * (1 : Nat)) ≤ (35184372088832 : Nat))) then ((s0 (Int.fdiv x0 (128 : Int)) (x1 ++ [(IntKind.wrap IntKind.u8 ((BitVec.toNat ((BitVec.ofInt (8 : Nat) (IntKind.wrap IntKind.u8 x0)) ||| (BitVec.ofInt (8 : Nat) (128 : Int)))) : Int))])).bind ret) else none) else (bif (decide ((((List.length x1) + (1 : Nat)) * (1 : Nat)) ≤ (35184372088832 : Nat))) then (ret ((ByteArray.mk (List.toArray (List.map (fun n => (UInt8.ofNat (Int.toNat n))) (x1 ++ [(IntKind.wrap IntKind.u8 x0)])))))) else none))
theorem pack_Uint.c_bind {β : Type}  {s0 : S_pack_Uint_0} {a0 : Int} {ret : ByteArray → Option β} : pack_Uint.c  s0 a0 ret = (pack_Uint.c  s0 a0 some).bind ret := by
  simp only [pack_Uint.c, bif_bind, sum_bind, Option.bind_assoc, Option.bind_some, Option.bind_none, Option.bind_fun_some]
theorem pack_Uint.s0c_bind {β : Type}  {s0 : S_pack_Uint_0} {x0 : Int} {x1 : List Int} {ret : ByteArray → Option β} : pack_Uint.s0c  s0 x0 x1 ret = (pack_Uint.s0c  s0 x0 x1 some).bind ret := by
  simp only [pack_Uint.s0c, bif_bind, sum_bind, Option.bind_assoc, Option.bind_some, Option.bind_none, Option.bind_fun_some]
theorem pack_Uint.ev  {s0 : S_pack_Uint_0} {a0 : Int} : evAt (env_pack_Uint  s0) [] [0] [.v (.one (.d (.int .u64) a0))] [] some = pack_Uint.c  s0 a0 (fun r => some ⟨.v (.one (.d .str r)), []⟩) := by
  kernel_rfl
theorem pack_Uint.s0_ev  {s0 : S_pack_Uint_0} {x0 : Int} {x1 : List Int} : evAt (env_pack_Uint  s0) [4, 0, 1, 1] [0, 3] [.v (.one (.d (.int .u64) x0)), .v (.one (.own 0))] [some (.own (.int .u8) false x1)] some = pack_Uint.s0c  s0 x0 x1 (fun r => some ⟨.v (.one (.d .str r)), []⟩) := by
  kernel_rfl
def pack_Uint.s0 : Nat → Int → (List Int) → Option ByteArray
  | 0, _, _ => none
  | k + 1, x0, x1 => pack_Uint.s0c  (pack_Uint.s0 k) x0 x1 some
def pack_Uint.f (k : Nat) (a0 : Int) : Option ByteArray := pack_Uint.c  (pack_Uint.s0 k) a0 some
theorem pack_Uint.is  {s0 : S_pack_Uint_0} : FnIs (env_pack_Uint  s0) 31 Go.Proofs.Tryz.f31 := ⟨Go.Proofs.Tryz.func31, rfl, rfl, rfl, by decide⟩
theorem pack_Uint.envok  {s0 : S_pack_Uint_0}  : EnvOK (env_pack_Uint  s0).toEnv := by
  intro f c h
  simp only [env_pack_Uint] at h
  simp at h
noncomputable abbrev pack_Uint.E (k : Nat) : FEnv := env_pack_Uint  (pack_Uint.s0 k)
theorem pack_Uint.hE (k : Nat) : EnvOK (pack_Uint.E k).toEnv := pack_Uint.envok 
theorem pack_Uint.segs_ok : ∀ k, ∀ s ∈ (pack_Uint.E k).segs, SegOK (pack_Uint.E k) Go.Proofs.Tryz.f31 s
  | 0 => by
    intro s hs
    simp only [pack_Uint.E, env_pack_Uint, List.mem_cons, List.not_mem_nil, or_false] at hs
    rcases hs with rfl
    · intro tvs blks res h; exfalso; simp only [seg_pack_Uint_0] at h; split at h <;> simp [pack_Uint.s0] at h
  | k + 1 => by
    intro s hs
    simp only [pack_Uint.E, env_pack_Uint, List.mem_cons, List.not_mem_nil, or_false] at hs
    rcases hs with rfl
    · refine seg_of_ev (E := pack_Uint.E k) (pack_Uint.hE k) ⟨pack_Uint.is.rvs⟩ (pack_Uint.segs_ok k) ?_
      intro tvs blks res h
      simp only [seg_pack_Uint_0] at h
      split at h
      · exact (pack_Uint.s0_ev.trans pack_Uint.s0c_bind).trans h
      · simp at h
theorem pack_Uint.ok (k : Nat) : CtOK Go.Proofs.Tryz.prog 31 (ct_pack_Uint (pack_Uint.f k)) := by
  refine ct_of_ev (E := pack_Uint.E k) pack_Uint.is (pack_Uint.hE k) (pack_Uint.segs_ok k) rfl ?_
  intro tvs blks res h
  simp only [ct_pack_Uint] at h
  split at h
  · exact (pack_Uint.ev.trans pack_Uint.c_bind).trans h
  · simp at h

/-! ### pack_Text: function 30 -/
abbrev G_pack_Text : Type := ByteArray → Option ByteArray
def ct_pack_Text (g : G_pack_Text) : Ct where
  nin := 0
  mv := []
  F := fun tvs blks {β} K => match tvs, blks with
    | [.v (.one (.d .str a0))], [] => (g a0).bind fun r => K ⟨.v (.one (.d .str r)), []⟩
    | _, _ => none
  legit := fun tvs blks K r h => by
    split at h
    · obtain ⟨x, hx, hk⟩ := Option.bind_eq_some_iff.1 h
      refine ⟨_, ?_, hk⟩
      simp only [hx, Option.bind_some]
    · simp at h
noncomputable def env_pack_Text (g31 : G_pack_Uint)  : FEnv := { P := Go.Proofs.Tryz.prog, ct := fun m => if m = 31 then some (ct_pack_Uint g31) else none, N := 9, body := Go.Proofs.Tryz.f30.body.getD .skip, rvs := [.tmp 2], rts := [9], nin := 0, rmv := [], segs := [] }
def pack_Text.c {β : Type} (g31 : G_pack_Uint)  (a0 : ByteArray) (ret : ByteArray → Option β) : Option β := ((g31 (IntKind.wrap IntKind.u64 ((ByteArray.size a0) : Int))).bind fun r0 => (bif ((decide ((ByteArray.size r0) ≤ (4611686018427387903 : Nat))) && (decide ((ByteArray.size a0) ≤ (4611686018427387903 : Nat)))) then (ret ((r0 ++ a0))) else none))
theorem pack_Text.c_bind {β : Type} {g31 : G_pack_Uint}  {a0 : ByteArray} {ret : ByteArray → Option β} : pack_Text.c g31  a0 ret = (pack_Text.c g31  a0 some).bind ret := by
  simp only [pack_Text.c, bif_bind, sum_bind, Option.bind_assoc, Option.bind_some, Option.bind_none, Option.bind_fun_some]
theorem pack_Text.ev {g31 : G_pack_Uint}  {a0 : ByteArray} : evAt (env_pack_Text g31 ) [] [0] [.v (.one (.d .str a0))] [] some = pack_Text.c g31  a0 (fun r => some ⟨.v (.one (.d .str r)), []⟩) := by
  kernel_rfl
def pack_Text.f (k : Nat) (a0 : ByteArray) : Option ByteArray := pack_Text.c (pack_Uint.f k)  a0 some
theorem pack_Text.is {g31 : G_pack_Uint}  : FnIs (env_pack_Text g31 ) 30 Go.Proofs.Tryz.f30 := ⟨Go.Proofs.Tryz.func30, rfl, rfl, rfl, by decide⟩
theorem pack_Text.envok {g31 : G_pack_Uint}  (h31 : CtOK Go.Proofs.Tryz.prog 31 (ct_pack_Uint g31)) : EnvOK (env_pack_Text g31 ).toEnv := by
  intro f c h
  simp only [env_pack_Text] at h
  split at h
  · rename_i e; subst e; cases h; exact h31
  simp at h
noncomputable abbrev pack_Text.E (k : Nat) : FEnv := env_pack_Text (pack_Uint.f k) 
theorem pack_Text.hE (k : Nat) : EnvOK (pack_Text.E k).toEnv := pack_Text.envok (pack_Uint.ok k)
theorem pack_Text.ok (k : Nat) : CtOK Go.Proofs.Tryz.prog 30 (ct_pack_Text (pack_Text.f k)) := by
  refine ct_of_ev (E := pack_Text.E k) pack_Text.is (pack_Text.hE k) (fun s hs => by simp [pack_Text.E, env_pack_Text] at hs) rfl ?_
  intro tvs blks res h
  simp only [ct_pack_Text] at h
  split at h
  · exact (pack_Text.ev.trans pack_Text.c_bind).trans h
  · simp at h

/-! ### keycode_Put: function 32 -/
abbrev G_keycode_Put : Type := Int → Int → Int → ByteArray → Option (ByteArray × Int)
def ct_keycode_Put (g : G_keycode_Put) : Ct where
  nin := 0
  mv := []
  F := fun tvs blks {β} K => match tvs, blks with
    | [.v (.agg [(.d (.int .i64) a0), (.d (.int .i64) a1), (.d (.int .u64) a2), (.d .str a3)])], [] => (g a0 a1 a2 a3).bind fun r => K ⟨.tup [(.one (.d .str r.1)), (.one (.d (.int .i64) r.2))], []⟩
    | _, _ => none
  legit := fun tvs blks K r h => by
    split at h
    · obtain ⟨x, hx, hk⟩ := Option.bind_eq_some_iff.1 h
      refine ⟨_, ?_, hk⟩
      simp only [hx, Option.bind_some]
    · simp at h
noncomputable def env_keycode_Put (g52 : G_values_Check) (g53 : G_keycode_put)  : FEnv := { P := Go.Proofs.Tryz.prog, ct := fun m => if m = 52 then some (ct_values_Check g52) else if m = 53 then some (ct_keycode_put g53) else none, N := 13, body := Go.Proofs.Tryz.f32.body.getD .skip, rvs := [.tmp 2, .tmp 3], rts := [9, 29], nin := 0, rmv := [], segs := [] }
def keycode_Put.c {β : Type} (g52 : G_values_Check) (g53 : G_keycode_put)  (a0 : Int) (a1 : Int) (a2 : Int) (a3 : ByteArray) (ret : (ByteArray × Int) → Option β) : Option β := ((g52 a0 a1 a2 a3).bind fun r0 => (bif (r0 != (0 : Int)) then (ret ((ByteArray.mk (List.toArray [])), r0)) else ((g53 a0 a1 a2 a3 []).bind fun r1 => (ret ((ByteArray.mk (List.toArray (List.map (fun n => (UInt8.ofNat (Int.toNat n))) r1))), (0 : Int))))))
theorem keycode_Put.c_bind {β : Type} {g52 : G_values_Check} {g53 : G_keycode_put}  {a0 : Int} {a1 : Int} {a2 : Int} {a3 : ByteArray} {ret : (ByteArray × Int) → Option β} : keycode_Put.c g52 g53  a0 a1 a2 a3 ret = (keycode_Put.c g52 g53  a0 a1 a2 a3 some).bind ret := by
  simp only [keycode_Put.c, bif_bind, sum_bind, Option.bind_assoc, Option.bind_some, Option.bind_none, Option.bind_fun_some]
theorem keycode_Put.ev {g52 : G_values_Check} {g53 : G_keycode_put}  {a0 : Int} {a1 : Int} {a2 : Int} {a3 : ByteArray} : evAt (env_keycode_Put g52 g53 ) [] [0] [.v (.agg [(.d (.int .i64) a0), (.d (.int .i64) a1), (.d (.int .u64) a2), (.d .str a3)])] [] some = keycode_Put.c g52 g53  a0 a1 a2 a3 (fun r => some ⟨.tup [(.one (.d .str r.1)), (.one (.d (.int .i64) r.2))], []⟩) := by
  kernel_rfl
def keycode_Put.f (k : Nat) (a0 : Int) (a1 : Int) (a2 : Int) (a3 : ByteArray) : Option (ByteArray × Int) := keycode_Put.c (values_Check.f k) (keycode_put.f k)  a0 a1 a2 a3 some
theorem keycode_Put.is {g52 : G_values_Check} {g53 : G_keycode_put}  : FnIs (env_keycode_Put g52 g53 ) 32 Go.Proofs.Tryz.f32 := ⟨Go.Proofs.Tryz.func32, rfl, rfl, rfl, by decide⟩
theorem keycode_Put.envok {g52 : G_values_Check} {g53 : G_keycode_put}  (h52 : CtOK Go.Proofs.Tryz.prog 52 (ct_values_Check g52)) (h53 : CtOK Go.Proofs.Tryz.prog 53 (ct_keycode_put g53)) : EnvOK (env_keycode_Put g52 g53 ).toEnv := by
  intro f c h
  simp only [env_keycode_Put] at h
  split at h
  · rename_i e; subst e; cases h; exact h52
  split at h
  · rename_i e; subst e; cases h; exact h53
  simp at h
noncomputable abbrev keycode_Put.E (k : Nat) : FEnv := env_keycode_Put (values_Check.f k) (keycode_put.f k) 
theorem keycode_Put.hE (k : Nat) : EnvOK (keycode_Put.E k).toEnv := keycode_Put.envok (values_Check.ok k) (keycode_put.ok k)
theorem keycode_Put.ok (k : Nat) : CtOK Go.Proofs.Tryz.prog 32 (ct_keycode_Put (keycode_Put.f k)) := by
  refine ct_of_ev (E := keycode_Put.E k) keycode_Put.is (keycode_Put.hE k) (fun s hs => by simp [keycode_Put.E, env_keycode_Put] at hs) rfl ?_
  intro tvs blks res h
  simp only [ct_keycode_Put] at h
  split at h
  · exact (keycode_Put.ev.trans keycode_Put.c_bind).trans h
  · simp at h

/-! ### schema_Put: function 14 -/
abbrev G_schema_Put : Type := ByteArray → Int → (List D_api_Col) → Option (ByteArray × Int)
def ct_schema_Put (g : G_schema_Put) : Ct where
  nin := 0
  mv := []
  F := fun tvs blks {β} K => match tvs, blks with
    | [.v (.agg [(.d .str a0), (.d (.int .i64) a1), (.d (.sl (.pair .str (.pair (.int .i64) (.pair .bool (.pair (.pair (.int .i64) (.pair (.int .i64) (.pair (.int .u64) (.pair .str .unit)))) .unit))))) a2)])], [] => (g a0 a1 a2).bind fun r => K ⟨.tup [(.one (.d .str r.1)), (.one (.d (.int .i64) r.2))], []⟩
    | _, _ => none
  legit := fun tvs blks K r h => by
    split at h
    · obtain ⟨x, hx, hk⟩ := Option.bind_eq_some_iff.1 h
      refine ⟨_, ?_, hk⟩
      simp only [hx, Option.bind_some]
    · simp at h
abbrev S_schema_Put_0 : Type := ByteArray → (List D_api_Col) → Int → Int → Option (ByteArray × Int)
abbrev S_schema_Put_1 : Type := ByteArray → ByteArray → (List D_api_Col) → Int → Int → ByteArray → Int → Bool → Int → Int → Int → ByteArray → Option (ByteArray × Int)
abbrev S_schema_Put_2 : Type := ByteArray → (List D_api_Col) → Int → Int → Option (ByteArray × Int)
def seg_schema_Put_0 (g : S_schema_Put_0) : Seg where
  path := [4, 1, 0, 1, 1, 1]
  prep := []
  keep := [5, 31, 32, 33]
  F := fun tvs blks {β} K => match tvs, blks with
    | [.v (.one (.d .str x0)), .v (.one (.d (.sl (.pair .str (.pair (.int .i64) (.pair .bool (.pair (.pair (.int .i64) (.pair (.int .i64) (.pair (.int .u64) (.pair .str .unit)))) .unit))))) x1)), .v (.one (.d (.int .i64) x2)), .v (.one (.d (.int .i64) x3))], [] => (g x0 x1 x2 x3).bind fun r => K ⟨.tup [(.one (.d .str r.1)), (.one (.d (.int .i64) r.2))], []⟩
    | _, _ => none
  legit := fun tvs blks K r h => by
    split at h
    · obtain ⟨x, hx, hk⟩ := Option.bind_eq_some_iff.1 h
      refine ⟨_, ?_, hk⟩
      simp only [hx, Option.bind_some]
    · simp at h
def seg_schema_Put_1 (g : S_schema_Put_1) : Seg where
  path := [1, 1, 1, 4, 0, 1, 1, 5, 4, 1, 0, 1, 1, 1]
  prep := []
  keep := [5, 7, 8, 31, 32, 33]
  F := fun tvs blks {β} K => match tvs, blks with
    | [.v (.one (.d .str x0)), .v (.one (.ptr 0 0)), .v (.one (.d .str x1)), .v (.one (.d (.sl (.pair .str (.pair (.int .i64) (.pair .bool (.pair (.pair (.int .i64) (.pair (.int .i64) (.pair (.int .u64) (.pair .str .unit)))) .unit))))) x2)), .v (.one (.d (.int .i64) x3)), .v (.one (.d (.int .i64) x4))], [some (.box [(.d .str x5), (.d (.int .i64) x6), (.d .bool x7), (.d (.int .i64) x8), (.d (.int .i64) x9), (.d (.int .u64) x10), (.d .str x11)])] => (g x0 x1 x2 x3 x4 x5 x6 x7 x8 x9 x10 x11).bind fun r => K ⟨.tup [(.one (.d .str r.1)), (.one (.d (.int .i64) r.2))], []⟩
    | _, _ => none
  legit := fun tvs blks K r h => by
    split at h
    · obtain ⟨x, hx, hk⟩ := Option.bind_eq_some_iff.1 h
      refine ⟨_, ?_, hk⟩
      simp only [hx, Option.bind_some]
    · simp at h
def seg_schema_Put_2 (g : S_schema_Put_2) : Seg where
  path := [1, 1, 1, 5, 4, 1, 0, 1, 1, 1]
  prep := []
  keep := [5, 31, 32, 33]
  F := fun tvs blks {β} K => match tvs, blks with
    | [.v (.one (.d .str x0)), .v (.one (.d (.sl (.pair .str (.pair (.int .i64) (.pair .bool (.pair (.pair (.int .i64) (.pair (.int .i64) (.pair (.int .u64) (.pair .str .unit)))) .unit))))) x1)), .v (.one (.d (.int .i64) x2)), .v (.one (.d (.int .i64) x3))], [] => (g x0 x1 x2 x3).bind fun r => K ⟨.tup [(.one (.d .str r.1)), (.one (.d (.int .i64) r.2))], []⟩
    | _, _ => none
  legit := fun tvs blks K r h => by
    split at h
    · obtain ⟨x, hx, hk⟩ := Option.bind_eq_some_iff.1 h
      refine ⟨_, ?_, hk⟩
      simp only [hx, Option.bind_some]
    · simp at h
noncomputable def env_schema_Put (g22 : G_schema_Check) (g30 : G_pack_Text) (g31 : G_pack_Uint) (g32 : G_keycode_Put) (s0 : S_schema_Put_0) (s1 : S_schema_Put_1) (s2 : S_schema_Put_2) : FEnv := { P := Go.Proofs.Tryz.prog, ct := fun m => if m = 22 then some (ct_schema_Check g22) else if m = 30 then some (ct_pack_Text g30) else if m = 31 then some (ct_pack_Uint g31) else if m = 32 then some (ct_keycode_Put g32) else none, N := 61, body := Go.Proofs.Tryz.f14.body.getD .skip, rvs := [.tmp 2, .tmp 3], rts := [9, 29], nin := 0, rmv := [], segs := [seg_schema_Put_0 s0, seg_schema_Put_1 s1, seg_schema_Put_2 s2] }
def schema_Put.c {β : Type} (g22 : G_schema_Check) (g30 : G_pack_Text) (g31 : G_pack_Uint) (g32 : G_keycode_Put) (s0 : S_schema_Put_0) (s1 : S_schema_Put_1) (s2 : S_schema_Put_2) (a0 : ByteArray) (a1 : Int) (a2 : List D_api_Col) (ret : (ByteArray × Int) → Option β) : Option β := ((g22 a0 a1 a2).bind fun r0 => (bif (r0 != (0 : Int)) then (ret ((ByteArray.mk (List.toArray [])), r0)) else ((g30 a0).bind fun r1 => ((g31 (IntKind.wrap IntKind.u64 a1)).bind fun r2 => (bif ((decide ((ByteArray.size r1) ≤ (4611686018427387903 : Nat))) && (decide ((ByteArray.size r2) ≤ (4611686018427387903 : Nat)))) then ((g31 (IntKind.wrap IntKind.u64 ((List.length a2) : Int))).bind fun r3 => (bif ((decide ((ByteArray.size (r1 ++ r2)) ≤ (4611686018427387903 : Nat))) && (decide ((ByteArray.size r3) ≤ (4611686018427387903 : Nat)))) then ((s0 ((r1 ++ r2) ++ r3) a2 ((List.length a2) : Int) (0 : Int)).bind ret) else none)) else none)))))
def schema_Put.s0c {β : Type} (g22 : G_schema_Check) (g30 : G_pack_Text) (g31 : G_pack_Uint) (g32 : G_keycode_Put) (s0 : S_schema_Put_0) (s1 : S_schema_Put_1) (s2 : S_schema_Put_2) (x0 : ByteArray) (x1 : List D_api_Col) (x2 : Int) (x3 : Int) (ret : (ByteArray × Int) → Option β) : Option β := (bif (decide (x3 < x2)) then (bif ((decide ((0 : Int) ≤ x3)) && (decide (x3 < ((List.length x1) : Int)))) then (bif (elem T_api_Col x1 x3).2.2.1 then ((s1 x0 (ByteArray.mk (List.toArray [(1 : UInt8)])) x1 x2 x3 (elem T_api_Col x1 x3).1 (elem T_api_Col x1 x3).2.1 (elem T_api_Col x1 x3).2.2.1 (elem T_api_Col x1 x3).2.2.2.1.1 (elem T_api_Col x1 x3).2.2.2.1.2.1 (elem T_api_Col x1 x3).2.2.2.1.2.2.1 (elem T_api_Col x1 x3).2.2.2.1.2.2.2.1).bind ret) else ((s1 x0 (ByteArray.mk (List.toArray [(0 : UInt8)])) x1 x2 x3 (elem T_api_Col x1 x3).1 (elem T_api_Col x1 x3).2.1 (elem T_api_Col x1 x3).2.2.1 (elem T_api_Col x1 x3).2.2.2.1.1 (elem T_api_Col x1 x3).2.2.2.1.2.1 (elem T_api_Col x1 x3).2.2.2.1.2.2.1 (elem T_api_Col x1 x3).2.2.2.1.2.2.2.1).bind ret)) else none) else (ret (x0, (0 : Int))))
def schema_Put.s1c {β : Type} (g22 : G_schema_Check) (g30 : G_pack_Text) (g31 : G_pack_Uint) (g32 : G_keycode_Put) (s0 : S_schema_Put_0) (s1 : S_schema_Put_1) (s2 : S_schema_Put_2) (x0 : ByteArray) (x1 : ByteArray) (x2 : List D_api_Col) (x3 : Int) (x4 : Int) (x5 : ByteArray) (x6 : Int) (x7 : Bool) (x8 : Int) (x9 : Int) (x10 : Int) (x11 : ByteArray) (ret : (ByteArray × Int) → Option β) : Option β := ((g32 x8 x9 x10 x11).bind fun r0 => ((g30 x5).bind fun r1 => ((g31 (IntKind.wrap IntKind.u64 x6)).bind fun r2 => (bif ((decide ((ByteArray.size r1) ≤ (4611686018427387903 : Nat))) && (decide ((ByteArray.size r2) ≤ (4611686018427387903 : Nat)))) then (bif ((decide ((ByteArray.size (r1 ++ r2)) ≤ (4611686018427387903 : Nat))) && (decide ((ByteArray.size x1) ≤ (4611686018427387903 : Nat)))) then (bif ((decide ((ByteArray.size ((r1 ++ r2) ++ x1)) ≤ (4611686018427387903 : Nat))) && (decide ((ByteArray.size r0.1) ≤ (4611686018427387903 : Nat)))) then (bif ((decide ((ByteArray.size x0) ≤ (4611686018427387903 : Nat))) && (decide ((ByteArray.size (((r1 ++ r2) ++ x1) ++ r0.1)) ≤ (4611686018427387903 : Nat)))) then ((s2 (x0 ++ (((r1 ++ r2) ++ x1) ++ r0.1)) x2 x3 x4).bind ret) else none) else none) else none) else none))))
def schema_Put.s2c {β : Type} (g22 : G_schema_Check) (g30 : G_pack_Text) (g31 : G_pack_Uint) (g32 : G_keycode_Put) (s0 : S_schema_Put_0) (s1 : S_schema_Put_1) (s2 : S_schema_Put_2) (x0 : ByteArray) (x1 : List D_api_Col) (x2 : Int) (x3 : Int) (ret : (ByteArray × Int) → Option β) : Option β := ((s0 x0 x1 x2 (IntKind.wrap IntKind.i64 (x3 + (1 : Int)))).bind ret)
theorem schema_Put.c_bind {β : Type} {g22 : G_schema_Check} {g30 : G_pack_Text} {g31 : G_pack_Uint} {g32 : G_keycode_Put} {s0 : S_schema_Put_0} {s1 : S_schema_Put_1} {s2 : S_schema_Put_2} {a0 : ByteArray} {a1 : Int} {a2 : List D_api_Col} {ret : (ByteArray × Int) → Option β} : schema_Put.c g22 g30 g31 g32 s0 s1 s2 a0 a1 a2 ret = (schema_Put.c g22 g30 g31 g32 s0 s1 s2 a0 a1 a2 some).bind ret := by
  simp only [schema_Put.c, bif_bind, sum_bind, Option.bind_assoc, Option.bind_some, Option.bind_none, Option.bind_fun_some]
theorem schema_Put.s0c_bind {β : Type} {g22 : G_schema_Check} {g30 : G_pack_Text} {g31 : G_pack_Uint} {g32 : G_keycode_Put} {s0 : S_schema_Put_0} {s1 : S_schema_Put_1} {s2 : S_schema_Put_2} {x0 : ByteArray} {x1 : List D_api_Col} {x2 : Int} {x3 : Int} {ret : (ByteArray × Int) → Option β} : schema_Put.s0c g22 g30 g31 g32 s0 s1 s2 x0 x1 x2 x3 ret = (schema_Put.s0c g22 g30 g31 g32 s0 s1 s2 x0 x1 x2 x3 some).bind ret := by
  simp only [schema_Put.s0c, bif_bind, sum_bind, Option.bind_assoc, Option.bind_some, Option.bind_none, Option.bind_fun_some]
theorem schema_Put.s1c_bind {β : Type} {g22 : G_schema_Check} {g30 : G_pack_Text} {g31 : G_pack_Uint} {g32 : G_keycode_Put} {s0 : S_schema_Put_0} {s1 : S_schema_Put_1} {s2 : S_schema_Put_2} {x0 : ByteArray} {x1 : ByteArray} {x2 : List D_api_Col} {x3 : Int} {x4 : Int} {x5 : ByteArray} {x6 : Int} {x7 : Bool} {x8 : Int} {x9 : Int} {x10 : Int} {x11 : ByteArray} {ret : (ByteArray × Int) → Option β} : schema_Put.s1c g22 g30 g31 g32 s0 s1 s2 x0 x1 x2 x3 x4 x5 x6 x7 x8 x9 x10 x11 ret = (schema_Put.s1c g22 g30 g31 g32 s0 s1 s2 x0 x1 x2 x3 x4 x5 x6 x7 x8 x9 x10 x11 some).bind ret := by
  simp only [schema_Put.s1c, bif_bind, sum_bind, Option.bind_assoc, Option.bind_some, Option.bind_none, Option.bind_fun_some]
theorem schema_Put.s2c_bind {β : Type} {g22 : G_schema_Check} {g30 : G_pack_Text} {g31 : G_pack_Uint} {g32 : G_keycode_Put} {s0 : S_schema_Put_0} {s1 : S_schema_Put_1} {s2 : S_schema_Put_2} {x0 : ByteArray} {x1 : List D_api_Col} {x2 : Int} {x3 : Int} {ret : (ByteArray × Int) → Option β} : schema_Put.s2c g22 g30 g31 g32 s0 s1 s2 x0 x1 x2 x3 ret = (schema_Put.s2c g22 g30 g31 g32 s0 s1 s2 x0 x1 x2 x3 some).bind ret := by
  simp only [schema_Put.s2c, bif_bind, sum_bind, Option.bind_assoc, Option.bind_some, Option.bind_none, Option.bind_fun_some]
theorem schema_Put.ev {g22 : G_schema_Check} {g30 : G_pack_Text} {g31 : G_pack_Uint} {g32 : G_keycode_Put} {s0 : S_schema_Put_0} {s1 : S_schema_Put_1} {s2 : S_schema_Put_2} {a0 : ByteArray} {a1 : Int} {a2 : List D_api_Col} : evAt (env_schema_Put g22 g30 g31 g32 s0 s1 s2) [] [0] [.v (.agg [(.d .str a0), (.d (.int .i64) a1), (.d (.sl T_api_Col) a2)])] [] some = schema_Put.c g22 g30 g31 g32 s0 s1 s2 a0 a1 a2 (fun r => some ⟨.tup [(.one (.d .str r.1)), (.one (.d (.int .i64) r.2))], []⟩) := by
  kernel_rfl
theorem schema_Put.s0_ev {g22 : G_schema_Check} {g30 : G_pack_Text} {g31 : G_pack_Uint} {g32 : G_keycode_Put} {s0 : S_schema_Put_0} {s1 : S_schema_Put_1} {s2 : S_schema_Put_2} {x0 : ByteArray} {x1 : List D_api_Col} {x2 : Int} {x3 : Int} : evAt (env_schema_Put g22 g30 g31 g32 s0 s1 s2) [4, 1, 0, 1, 1, 1] [5, 31, 32, 33] [.v (.one (.d .str x0)), .v (.one (.d (.sl T_api_Col) x1)), .v (.one (.d (.int .i64) x2)), .v (.one (.d (.int .i64) x3))] [] some = schema_Put.s0c g22 g30 g31 g32 s0 s1 s2 x0 x1 x2 x3 (fun r => some ⟨.tup [(.one (.d .str r.1)), (.one (.d (.int .i64) r.2))], []⟩) := by
  kernel_rfl
theorem schema_Put.s1_ev {g22 : G_schema_Check} {g30 : G_pack_Text} {g31 : G_pack_Uint} {g32 : G_keycode_Put} {s0 : S_schema_Put_0} {s1 : S_schema_Put_1} {s2 : S_schema_Put_2} {x0 : ByteArray} {x1 : ByteArray} {x2 : List D_api_Col} {x3 : Int} {x4 : Int} {x5 : ByteArray} {x6 : Int} {x7 : Bool} {x8 : Int} {x9 : Int} {x10 : Int} {x11 : ByteArray} : evAt (env_schema_Put g22 g30 g31 g32 s0 s1 s2) [1, 1, 1, 4, 0, 1, 1, 5, 4, 1, 0, 1, 1, 1] [5, 7, 8, 31, 32, 33] [.v (.one (.d .str x0)), .v (.one (.ptr 0 0)), .v (.one (.d .str x1)), .v (.one (.d (.sl T_api_Col) x2)), .v (.one (.d (.int .i64) x3)), .v (.one (.d (.int .i64) x4))] [some (.box [(.d .str x5), (.d (.int .i64) x6), (.d .bool x7), (.d (.int .i64) x8), (.d (.int .i64) x9), (.d (.int .u64) x10), (.d .str x11)])] some = schema_Put.s1c g22 g30 g31 g32 s0 s1 s2 x0 x1 x2 x3 x4 x5 x6 x7 x8 x9 x10 x11 (fun r => some ⟨.tup [(.one (.d .str r.1)), (.one (.d (.int .i64) r.2))], []⟩) := by
  kernel_rfl
theorem schema_Put.s2_ev {g22 : G_schema_Check} {g30 : G_pack_Text} {g31 : G_pack_Uint} {g32 : G_keycode_Put} {s0 : S_schema_Put_0} {s1 : S_schema_Put_1} {s2 : S_schema_Put_2} {x0 : ByteArray} {x1 : List D_api_Col} {x2 : Int} {x3 : Int} : evAt (env_schema_Put g22 g30 g31 g32 s0 s1 s2) [1, 1, 1, 5, 4, 1, 0, 1, 1, 1] [5, 31, 32, 33] [.v (.one (.d .str x0)), .v (.one (.d (.sl T_api_Col) x1)), .v (.one (.d (.int .i64) x2)), .v (.one (.d (.int .i64) x3))] [] some = schema_Put.s2c g22 g30 g31 g32 s0 s1 s2 x0 x1 x2 x3 (fun r => some ⟨.tup [(.one (.d .str r.1)), (.one (.d (.int .i64) r.2))], []⟩) := by
  kernel_rfl
mutual
def schema_Put.s0 : Nat → ByteArray → (List D_api_Col) → Int → Int → Option (ByteArray × Int)
  | 0, _, _, _, _ => none
  | k + 1, x0, x1, x2, x3 => schema_Put.s0c (schema_Check.f k) (pack_Text.f k) (pack_Uint.f k) (keycode_Put.f k) (schema_Put.s0 k) (schema_Put.s1 k) (schema_Put.s2 k) x0 x1 x2 x3 some
def schema_Put.s1 : Nat → ByteArray → ByteArray → (List D_api_Col) → Int → Int → ByteArray → Int → Bool → Int → Int → Int → ByteArray → Option (ByteArray × Int)
  | 0, _, _, _, _, _, _, _, _, _, _, _, _ => none
  | k + 1, x0, x1, x2, x3, x4, x5, x6, x7, x8, x9, x10, x11 => schema_Put.s1c (schema_Check.f k) (pack_Text.f k) (pack_Uint.f k) (keycode_Put.f k) (schema_Put.s0 k) (schema_Put.s1 k) (schema_Put.s2 k) x0 x1 x2 x3 x4 x5 x6 x7 x8 x9 x10 x11 some
def schema_Put.s2 : Nat → ByteArray → (List D_api_Col) → Int → Int → Option (ByteArray × Int)
  | 0, _, _, _, _ => none
  | k + 1, x0, x1, x2, x3 => schema_Put.s2c (schema_Check.f k) (pack_Text.f k) (pack_Uint.f k) (keycode_Put.f k) (schema_Put.s0 k) (schema_Put.s1 k) (schema_Put.s2 k) x0 x1 x2 x3 some
end
def schema_Put.f (k : Nat) (a0 : ByteArray) (a1 : Int) (a2 : List D_api_Col) : Option (ByteArray × Int) := schema_Put.c (schema_Check.f k) (pack_Text.f k) (pack_Uint.f k) (keycode_Put.f k) (schema_Put.s0 k) (schema_Put.s1 k) (schema_Put.s2 k) a0 a1 a2 some
theorem schema_Put.is {g22 : G_schema_Check} {g30 : G_pack_Text} {g31 : G_pack_Uint} {g32 : G_keycode_Put} {s0 : S_schema_Put_0} {s1 : S_schema_Put_1} {s2 : S_schema_Put_2} : FnIs (env_schema_Put g22 g30 g31 g32 s0 s1 s2) 14 Go.Proofs.Tryz.f14 := ⟨Go.Proofs.Tryz.func14, rfl, rfl, rfl, by decide⟩
theorem schema_Put.envok {g22 : G_schema_Check} {g30 : G_pack_Text} {g31 : G_pack_Uint} {g32 : G_keycode_Put} {s0 : S_schema_Put_0} {s1 : S_schema_Put_1} {s2 : S_schema_Put_2} (h22 : CtOK Go.Proofs.Tryz.prog 22 (ct_schema_Check g22)) (h30 : CtOK Go.Proofs.Tryz.prog 30 (ct_pack_Text g30)) (h31 : CtOK Go.Proofs.Tryz.prog 31 (ct_pack_Uint g31)) (h32 : CtOK Go.Proofs.Tryz.prog 32 (ct_keycode_Put g32)) : EnvOK (env_schema_Put g22 g30 g31 g32 s0 s1 s2).toEnv := by
  intro f c h
  simp only [env_schema_Put] at h
  split at h
  · rename_i e; subst e; cases h; exact h22
  split at h
  · rename_i e; subst e; cases h; exact h30
  split at h
  · rename_i e; subst e; cases h; exact h31
  split at h
  · rename_i e; subst e; cases h; exact h32
  simp at h
noncomputable abbrev schema_Put.E (k : Nat) : FEnv := env_schema_Put (schema_Check.f k) (pack_Text.f k) (pack_Uint.f k) (keycode_Put.f k) (schema_Put.s0 k) (schema_Put.s1 k) (schema_Put.s2 k)
theorem schema_Put.hE (k : Nat) : EnvOK (schema_Put.E k).toEnv := schema_Put.envok (schema_Check.ok k) (pack_Text.ok k) (pack_Uint.ok k) (keycode_Put.ok k)
theorem schema_Put.segs_ok : ∀ k, ∀ s ∈ (schema_Put.E k).segs, SegOK (schema_Put.E k) Go.Proofs.Tryz.f14 s
  | 0 => by
    intro s hs
    simp only [schema_Put.E, env_schema_Put, List.mem_cons, List.not_mem_nil, or_false] at hs
    rcases hs with rfl | rfl | rfl
    · intro tvs blks res h; exfalso; simp only [seg_schema_Put_0] at h; split at h <;> simp [schema_Put.s0] at h
    · intro tvs blks res h; exfalso; simp only [seg_schema_Put_1] at h; split at h <;> simp [schema_Put.s1] at h
    · intro tvs blks res h; exfalso; simp only [seg_schema_Put_2] at h; split at h <;> simp [schema_Put.s2] at h
  | k + 1 => by
    intro s hs
    simp only [schema_Put.E, env_schema_Put, List.mem_cons, List.not_mem_nil, or_false] at hs
    rcases hs with rfl | rfl | rfl
    · refine seg_of_ev (E := schema_Put.E k) (schema_Put.hE k) ⟨schema_Put.is.rvs⟩ (schema_Put.segs_ok k) ?_
      intro tvs blks res h
      simp only [seg_schema_Put_0] at h
      split at h
      · exact (schema_Put.s0_ev.trans schema_Put.s0c_bind).trans h
      · simp at h
    · refine seg_of_ev (E := schema_Put.E k) (schema_Put.hE k) ⟨schema_Put.is.rvs⟩ (schema_Put.segs_ok k) ?_
      intro tvs blks res h
      simp only [seg_schema_Put_1] at h
      split at h
      · exact (schema_Put.s1_ev.trans schema_Put.s1c_bind).trans h
      · simp at h
    · refine seg_of_ev (E := schema_Put.E k) (schema_Put.hE k) ⟨schema_Put.is.rvs⟩ (schema_Put.segs_ok k) ?_
      intro tvs blks res h
      simp only [seg_schema_Put_2] at h
      split at h
      · exact (schema_Put.s2_ev.trans schema_Put.s2c_bind).trans h
      · simp at h
theorem schema_Put.ok (k : Nat) : CtOK Go.Proofs.Tryz.prog 14 (ct_schema_Put (schema_Put.f k)) := by
  refine ct_of_ev (E := schema_Put.E k) schema_Put.is (schema_Put.hE k) (schema_Put.segs_ok k) rfl ?_
  intro tvs blks res h
  simp only [ct_schema_Put] at h
  split at h
  · exact (schema_Put.ev.trans schema_Put.c_bind).trans h
  · simp at h
end Go.Proofs.YtddlebbjaadbeaaGreatDoor.Aev
