/- By a program of this session (AEV): functions of the program as plain functions, and that the machine does what they say. -/
import Derived.Test.YtddlebbjaadbeaaDoorTys
import Derived.Test.YtddlebbjaadbeaaDoorProg
import Derived.Laws.Externs
import Derived.Lib.Bytealg
import Derived.Test.YtddlebbjaadbeaaDoorF1
import Derived.Test.YtddlebbjaadbeaaDoorF4
import Derived.Test.YtddlebbjaadbeaaDoorAevY
import Derived.Test.YtddlebbjaadbeaaDoorEsc
namespace Go.Proofs.YtddlebbjaadbeaaDoor.Aev
set_option linter.unusedVariables false
set_option linter.unusedSimpArgs false
set_option maxRecDepth 100000
set_option maxHeartbeats 4000000
open Go
/-! ### pack_Text: function 35 -/
abbrev G_pack_Text : Type := ByteArray → Option ByteArray
def ct_pack_Text (g : G_pack_Text) : Ct where
  nin := 0
  mv := []
  F := fun tvs blks {β} K => match tvs, blks with
    | [.v (.one (.d .str a0))], [] => (g a0).bind fun r => K ⟨.v (.one (.d .str r)), []⟩
    | _, _ => none
  legit := fun tvs blks K r h => by
    split at h
    · obtain ⟨x, hx, hk⟩ := Option.bind_eq_some_iff.1 h
      refine ⟨_, ?_, hk⟩
      simp only [hx, Option.bind_some]
    · simp at h
noncomputable def env_pack_Text (g36 : G_pack_Uint)  : FEnv := { P := Go.Proofs.Tryd.prog, ct := fun m => if m = 36 then some (ct_pack_Uint g36) else none, N := 9, body := Go.Proofs.Tryd.f35.body.getD .skip, rvs := [.tmp 2], rts := [9], nin := 0, rmv := [], segs := [] }
def pack_Text.c {β : Type} (g36 : G_pack_Uint)  (a0 : ByteArray) (ret : ByteArray → Option β) : Option β := ((g36 (IntKind.wrap IntKind.u64 ((ByteArray.size a0) : Int))).bind fun r0 => (bif ((decide ((ByteArray.size r0) ≤ (4611686018427387903 : Nat))) && (decide ((ByteArray.size a0) ≤ (4611686018427387903 : Nat)))) then (ret ((r0 ++ a0))) else none))
theorem pack_Text.c_bind {β : Type} {g36 : G_pack_Uint}  {a0 : ByteArray} {ret : ByteArray → Option β} : pack_Text.c g36  a0 ret = (pack_Text.c g36  a0 some).bind ret := by
  simp only [pack_Text.c, bif_bind, sum_bind, Option.bind_assoc, Option.bind_some, Option.bind_none, Option.bind_fun_some]
theorem pack_Text.ev {g36 : G_pack_Uint}  {a0 : ByteArray} : evAt (env_pack_Text g36 ) [] [0] [.v (.one (.d .str a0))] [] some = pack_Text.c g36  a0 (fun r => some ⟨.v (.one (.d .str r)), []⟩) := by
  kernel_rfl
def pack_Text.f (k : Nat) (a0 : ByteArray) : Option ByteArray := pack_Text.c (pack_Uint.f k)  a0 some
theorem pack_Text.is {g36 : G_pack_Uint}  : FnIs (env_pack_Text g36 ) 35 Go.Proofs.Tryd.f35 := ⟨Go.Proofs.Tryd.func35, rfl, rfl, rfl, by decide⟩
theorem pack_Text.envok {g36 : G_pack_Uint}  (h36 : CtOK Go.Proofs.Tryd.prog 36 (ct_pack_Uint g36)) : EnvOK (env_pack_Text g36 ).toEnv := by
  intro f c h
  simp only [env_pack_Text] at h
  split at h
  · rename_i e; subst e; cases h; exact h36
  simp at h
noncomputable abbrev pack_Text.E (k : Nat) : FEnv := env_pack_Text (pack_Uint.f k) 
theorem pack_Text.hE (k : Nat) : EnvOK (pack_Text.E k).toEnv := pack_Text.envok (pack_Uint.ok k)
theorem pack_Text.ok (k : Nat) : CtOK Go.Proofs.Tryd.prog 35 (ct_pack_Text (pack_Text.f k)) := by
  refine ct_of_ev (E := pack_Text.E k) pack_Text.is (pack_Text.hE k) (fun s hs => by simp [pack_Text.E, env_pack_Text] at hs) rfl ?_
  intro tvs blks res h
  simp only [ct_pack_Text] at h
  split at h
  · exact (pack_Text.ev.trans pack_Text.c_bind).trans h
  · simp at h

/-! ### keycode_put8: function 64 -/
abbrev G_keycode_put8 : Type := Int → (List Int) → Option ((List Int))
def ct_keycode_put8 (g : G_keycode_put8) : Ct where
  nin := 0
  mv := [0]
  F := fun tvs blks {β} K => match tvs, blks with
    | [.v (.one (.own 0)), .v (.one (.d (.int .u64) a0))], [.own (.int .u8) false a1] => (g a0 a1).bind fun r => K ⟨.v (.one (.own 0)), [some (.own (.int .u8) false r)]⟩
    | _, _ => none
  legit := fun tvs blks K r h => by
    split at h
    · obtain ⟨x, hx, hk⟩ := Option.bind_eq_some_iff.1 h
      refine ⟨_, ?_, hk⟩
      simp only [hx, Option.bind_some]
    · simp at h
abbrev S_keycode_put8_0 : Type := Int → Int → (List Int) → Option ((List Int))
def seg_keycode_put8_0 (g : S_keycode_put8_0) : Seg where
  path := [4, 1, 0, 1]
  prep := []
  keep := [0, 1, 5]
  F := fun tvs blks {β} K => match tvs, blks with
    | [.v (.one (.own 0)), .v (.one (.d (.int .u64) x0)), .v (.one (.d (.int .i64) x1))], [some (.own (.int .u8) false x2)] => (g x0 x1 x2).bind fun r => K ⟨.v (.one (.own 0)), [some (.own (.int .u8) false r)]⟩
    | _, _ => none
  legit := fun tvs blks K r h => by
    split at h
    · obtain ⟨x, hx, hk⟩ := Option.bind_eq_some_iff.1 h
      refine ⟨_, ?_, hk⟩
      simp only [hx, Option.bind_some]
    · simp at h
noncomputable def env_keycode_put8  (s0 : S_keycode_put8_0) : FEnv := { P := Go.Proofs.Tryd.prog, ct := fun m => none, N := 18, body := Go.Proofs.Tryd.f64.body.getD .skip, rvs := [.tmp 4], rts := [74], nin := 0, rmv := [0], segs := [seg_keycode_put8_0 s0] }
def keycode_put8.c {β : Type}  (s0 : S_keycode_put8_0) (a0 : Int) (a1 : List Int) (ret : ((List Int)) → Option β) : Option β := ((s0 a0 (56 : Int) a1).bind ret)
def keycode_put8.s0c {β : Type}  (s0 : S_keycode_put8_0) (x0 : Int) (x1 : Int) (x2 : List Int) (ret : ((List Int)) → Option β) : Option β := (bif (decide (x1 ≥ (0 : Int))) then (bif (decide ((0 : Int) ≤ x1)) then (bif (decide ((((List.length x2) + (1 : Nat)) * (1 : Nat)) ≤ (35184372088832 : Nat))) then ((s0 x0 (IntKind.wrap IntKind.i64 (x1 - (8 : Int))) (x2 ++ [(IntKind.wrap IntKind.u8 (Int.fdiv x0 ((2 : Int) ^ (Min.min (Int.toNat x1) (64 : Nat)))))])).bind ret) else none) else none) else (ret (x2)))
theorem keycode_put8.c_bind {β : Type}  {s0 : S_keycode_put8_0} {a0 : Int} {a1 : List Int} {ret : ((List Int)) → Option β} : keycode_put8.c  s0 a0 a1 ret = (keycode_put8.c  s0 a0 a1 some).bind ret := by
  simp only [keycode_put8.c, bif_bind, sum_bind, Option.bind_assoc, Option.bind_some, Option.bind_none, Option.bind_fun_some]
theorem keycode_put8.s0c_bind {β : Type}  {s0 : S_keycode_put8_0} {x0 : Int} {x1 : Int} {x2 : List Int} {ret : ((List Int)) → Option β} : keycode_put8.s0c  s0 x0 x1 x2 ret = (keycode_put8.s0c  s0 x0 x1 x2 some).bind ret := by
  simp only [keycode_put8.s0c, bif_bind, sum_bind, Option.bind_assoc, Option.bind_some, Option.bind_none, Option.bind_fun_some]
theorem keycode_put8.ev  {s0 : S_keycode_put8_0} {a0 : Int} {a1 : List Int} : evAt (env_keycode_put8  s0) [] [0, 1] [.v (.one (.own 0)), .v (.one (.d (.int .u64) a0))] [some (.own (.int .u8) false a1)] some = keycode_put8.c  s0 a0 a1 (fun r => some ⟨.v (.one (.own 0)), [some (.own (.int .u8) false r)]⟩) := by
  kernel_rfl
theorem keycode_put8.s0_ev  {s0 : S_keycode_put8_0} {x0 : Int} {x1 : Int} {x2 : List Int} : evAt (env_keycode_put8  s0) [4, 1, 0, 1] [0, 1, 5] [.v (.one (.own 0)), .v (.one (.d (.int .u64) x0)), .v (.one (.d (.int .i64) x1))] [some (.own (.int .u8) false x2)] some = keycode_put8.s0c  s0 x0 x1 x2 (fun r => some ⟨.v (.one (.own 0)), [some (.own (.int .u8) false r)]⟩) := by
  kernel_rfl
def keycode_put8.s0 : Nat → Int → Int → (List Int) → Option ((List Int))
  | 0, _, _, _ => none
  | k + 1, x0, x1, x2 => keycode_put8.s0c  (keycode_put8.s0 k) x0 x1 x2 some
def keycode_put8.f (k : Nat) (a0 : Int) (a1 : List Int) : Option ((List Int)) := keycode_put8.c  (keycode_put8.s0 k) a0 a1 some
theorem keycode_put8.is  {s0 : S_keycode_put8_0} : FnIs (env_keycode_put8  s0) 64 Go.Proofs.Tryd.f64 := ⟨Go.Proofs.Tryd.func64, rfl, rfl, rfl, by decide⟩
theorem keycode_put8.envok  {s0 : S_keycode_put8_0}  : EnvOK (env_keycode_put8  s0).toEnv := by
  intro f c h
  simp only [env_keycode_put8] at h
  simp at h
noncomputable abbrev keycode_put8.E (k : Nat) : FEnv := env_keycode_put8  (keycode_put8.s0 k)
theorem keycode_put8.hE (k : Nat) : EnvOK (keycode_put8.E k).toEnv := keycode_put8.envok 
theorem keycode_put8.segs_ok : ∀ k, ∀ s ∈ (keycode_put8.E k).segs, SegOK (keycode_put8.E k) Go.Proofs.Tryd.f64 s
  | 0 => by
    intro s hs
    simp only [keycode_put8.E, env_keycode_put8, List.mem_cons, List.not_mem_nil, or_false] at hs
    rcases hs with rfl
    · intro tvs blks res h; exfalso; simp only [seg_keycode_put8_0] at h; split at h <;> simp [keycode_put8.s0] at h
  | k + 1 => by
    intro s hs
    simp only [keycode_put8.E, env_keycode_put8, List.mem_cons, List.not_mem_nil, or_false] at hs
    rcases hs with rfl
    · refine seg_of_ev (E := keycode_put8.E k) (keycode_put8.hE k) ⟨keycode_put8.is.rvs⟩ (keycode_put8.segs_ok k) ?_
      intro tvs blks res h
      simp only [seg_keycode_put8_0] at h
      split at h
      · exact (keycode_put8.s0_ev.trans keycode_put8.s0c_bind).trans h
      · simp at h
theorem keycode_put8.ok (k : Nat) : CtOK Go.Proofs.Tryd.prog 64 (ct_keycode_put8 (keycode_put8.f k)) := by
  refine ct_of_ev (E := keycode_put8.E k) keycode_put8.is (keycode_put8.hE k) (keycode_put8.segs_ok k) rfl ?_
  intro tvs blks res h
  simp only [ct_keycode_put8] at h
  split at h
  · exact (keycode_put8.ev.trans keycode_put8.c_bind).trans h
  · simp at h

/-! ### reals_Key: function 65 -/
abbrev G_reals_Key : Type := Int → Option Int
def ct_reals_Key (g : G_reals_Key) : Ct where
  nin := 0
  mv := []
  F := fun tvs blks {β} K => match tvs, blks with
    | [.v (.one (.d (.int .u64) a0))], [] => (g a0).bind fun r => K ⟨.v (.one (.d (.int .u64) r)), []⟩
    | _, _ => none
  legit := fun tvs blks K r h => by
    split at h
    · obtain ⟨x, hx, hk⟩ := Option.bind_eq_some_iff.1 h
      refine ⟨_, ?_, hk⟩
      simp only [hx, Option.bind_some]
    · simp at h
noncomputable def env_reals_Key (g62 : G_reals_Canon)  : FEnv := { P := Go.Proofs.Tryd.prog, ct := fun m => if m = 62 then some (ct_reals_Canon g62) else none, N := 12, body := Go.Proofs.Tryd.f65.body.getD .skip, rvs := [.tmp 2], rts := [29], nin := 0, rmv := [], segs := [] }
def reals_Key.c {β : Type} (g62 : G_reals_Canon)  (a0 : Int) (ret : Int → Option β) : Option β := ((g62 a0).bind fun r0 => (bif ((IntKind.wrap IntKind.u64 ((BitVec.toNat ((BitVec.ofInt (64 : Nat) r0) &&& (BitVec.ofInt (64 : Nat) (9223372036854775808 : Int)))) : Int)) != (0 : Int)) then (ret ((IntKind.wrap IntKind.u64 ((BitVec.toNat ((BitVec.ofInt (64 : Nat) (18446744073709551615 : Int)) ^^^ (BitVec.ofInt (64 : Nat) r0))) : Int)))) else (ret ((IntKind.wrap IntKind.u64 ((BitVec.toNat ((BitVec.ofInt (64 : Nat) r0) ||| (BitVec.ofInt (64 : Nat) (9223372036854775808 : Int)))) : Int))))))
theorem reals_Key.c_bind {β : Type} {g62 : G_reals_Canon}  {a0 : Int} {ret : Int → Option β} : reals_Key.c g62  a0 ret = (reals_Key.c g62  a0 some).bind ret := by
  simp only [reals_Key.c, bif_bind, sum_bind, Option.bind_assoc, Option.bind_some, Option.bind_none, Option.bind_fun_some]
theorem reals_Key.ev {g62 : G_reals_Canon}  {a0 : Int} : evAt (env_reals_Key g62 ) [] [0] [.v (.one (.d (.int .u64) a0))] [] some = reals_Key.c g62  a0 (fun r => some ⟨.v (.one (.d (.int .u64) r)), []⟩) := by
  kernel_rfl
def reals_Key.f (k : Nat) (a0 : Int) : Option Int := reals_Key.c (reals_Canon.f k)  a0 some
theorem reals_Key.is {g62 : G_reals_Canon}  : FnIs (env_reals_Key g62 ) 65 Go.Proofs.Tryd.f65 := ⟨Go.Proofs.Tryd.func65, rfl, rfl, rfl, by decide⟩
theorem reals_Key.envok {g62 : G_reals_Canon}  (h62 : CtOK Go.Proofs.Tryd.prog 62 (ct_reals_Canon g62)) : EnvOK (env_reals_Key g62 ).toEnv := by
  intro f c h
  simp only [env_reals_Key] at h
  split at h
  · rename_i e; subst e; cases h; exact h62
  simp at h
noncomputable abbrev reals_Key.E (k : Nat) : FEnv := env_reals_Key (reals_Canon.f k) 
theorem reals_Key.hE (k : Nat) : EnvOK (reals_Key.E k).toEnv := reals_Key.envok (reals_Canon.ok k)
theorem reals_Key.ok (k : Nat) : CtOK Go.Proofs.Tryd.prog 65 (ct_reals_Key (reals_Key.f k)) := by
  refine ct_of_ev (E := reals_Key.E k) reals_Key.is (reals_Key.hE k) (fun s hs => by simp [reals_Key.E, env_reals_Key] at hs) rfl ?_
  intro tvs blks res h
  simp only [ct_reals_Key] at h
  split at h
  · exact (reals_Key.ev.trans reals_Key.c_bind).trans h
  · simp at h

/-! ### keycode_escaped: function 66 -/
abbrev G_keycode_escaped : Type := ByteArray → Option ByteArray
def ct_keycode_escaped (g : G_keycode_escaped) : Ct where
  nin := 0
  mv := []
  F := fun tvs blks {β} K => match tvs, blks with
    | [.v (.one (.d .str a0))], [] => (g a0).bind fun r => K ⟨.v (.one (.fn 82 [(0, 0)])), [some (.box [(.d .str r)])]⟩
    | _, _ => none
  legit := fun tvs blks K r h => by
    split at h
    · obtain ⟨x, hx, hk⟩ := Option.bind_eq_some_iff.1 h
      refine ⟨_, ?_, hk⟩
      simp only [hx, Option.bind_some]
    · simp at h
noncomputable def env_keycode_escaped   : FEnv := { P := Go.Proofs.Tryd.prog, ct := fun m => none, N := 4, body := Go.Proofs.Tryd.f66.body.getD .skip, rvs := [.tmp 2], rts := [98], nin := 0, rmv := [], segs := [] }
def keycode_escaped.c {β : Type}   (a0 : ByteArray) (ret : ByteArray → Option β) : Option β := (ret (a0))
theorem keycode_escaped.c_bind {β : Type}   {a0 : ByteArray} {ret : ByteArray → Option β} : keycode_escaped.c   a0 ret = (keycode_escaped.c   a0 some).bind ret := by
  simp only [keycode_escaped.c, bif_bind, sum_bind, Option.bind_assoc, Option.bind_some, Option.bind_none, Option.bind_fun_some]
theorem keycode_escaped.ev   {a0 : ByteArray} : evAt (env_keycode_escaped  ) [] [0] [.v (.one (.d .str a0))] [] some = keycode_escaped.c   a0 (fun r => some ⟨.v (.one (.fn 82 [(0, 0)])), [some (.box [(.d .str r)])]⟩) := by
  kernel_rfl
def keycode_escaped.f (k : Nat) (a0 : ByteArray) : Option ByteArray := keycode_escaped.c   a0 some
theorem keycode_escaped.is   : FnIs (env_keycode_escaped  ) 66 Go.Proofs.Tryd.f66 := ⟨Go.Proofs.Tryd.func66, rfl, rfl, rfl, by decide⟩
theorem keycode_escaped.envok    : EnvOK (env_keycode_escaped  ).toEnv := by
  intro f c h
  simp only [env_keycode_escaped] at h
  simp at h
noncomputable abbrev keycode_escaped.E (k : Nat) : FEnv := env_keycode_escaped  
theorem keycode_escaped.hE (k : Nat) : EnvOK (keycode_escaped.E k).toEnv := keycode_escaped.envok 
theorem keycode_escaped.ok (k : Nat) : CtOK Go.Proofs.Tryd.prog 66 (ct_keycode_escaped (keycode_escaped.f k)) := by
  refine ct_of_ev (E := keycode_escaped.E k) keycode_escaped.is (keycode_escaped.hE k) (fun s hs => by simp [keycode_escaped.E, env_keycode_escaped] at hs) rfl ?_
  intro tvs blks res h
  simp only [ct_keycode_escaped] at h
  split at h
  · exact (keycode_escaped.ev.trans keycode_escaped.c_bind).trans h
  · simp at h

/-! ### keycode_put: function 46 -/
abbrev G_keycode_put : Type := Int → Int → Int → ByteArray → (List Int) → Option ((List Int))
def ct_keycode_put (g : G_keycode_put) : Ct where
  nin := 0
  mv := [0]
  F := fun tvs blks {β} K => match tvs, blks with
    | [.v (.one (.own 0)), .v (.agg [(.d (.int .i64) a0), (.d (.int .i64) a1), (.d (.int .u64) a2), (.d .str a3)])], [.own (.int .u8) false a4] => (g a0 a1 a2 a3 a4).bind fun r => K ⟨.v (.one (.own 0)), [some (.own (.int .u8) false r)]⟩
    | [.v (.one (.raw (.slice none 0 0))), .v (.agg [(.d (.int .i64) a0), (.d (.int .i64) a1), (.d (.int .u64) a2), (.d .str a3)])], [] => (g a0 a1 a2 a3 []).bind fun r => K ⟨.v (.one (.own 0)), [some (.own (.int .u8) false r)]⟩
    | _, _ => none
  legit := fun tvs blks K r h => by
    split at h
    · obtain ⟨x, hx, hk⟩ := Option.bind_eq_some_iff.1 h
      refine ⟨_, ?_, hk⟩
      simp only [hx, Option.bind_some]
    · obtain ⟨x, hx, hk⟩ := Option.bind_eq_some_iff.1 h
      refine ⟨_, ?_, hk⟩
      simp only [hx, Option.bind_some]
    · simp at h
abbrev S_keycode_put_0 : Type := ByteArray → (List Int) → Option ((List Int))
def seg_keycode_put_0 (g : S_keycode_put_0) : Seg where
  path := [4, 1, 2, 1, 3, 1, 3, 1, 3, 1, 4, 1, 0, 1, 1]
  prep := []
  keep := [2, 42]
  F := fun tvs blks {β} K => match tvs, blks with
    | [.v (.one (.ptr 0 0)), .v (.one (.fn 82 [(1, 0)]))], [some (.box [(.own 2)]), some (.box [(.d .str x0)]), some (.own (.int .u8) false x1)] => (g x0 x1).bind fun r => K ⟨.v (.one (.own 0)), [some (.own (.int .u8) false r)]⟩
    | _, _ => none
  legit := fun tvs blks K r h => by
    split at h
    · obtain ⟨x, hx, hk⟩ := Option.bind_eq_some_iff.1 h
      refine ⟨_, ?_, hk⟩
      simp only [hx, Option.bind_some]
    · simp at h
noncomputable def env_keycode_put (g64 : G_keycode_put8) (g65 : G_reals_Key) (g66 : G_keycode_escaped) (s0 : S_keycode_put_0) : FEnv := { P := Go.Proofs.Tryd.prog, ct := fun m => if m = 64 then some (ct_keycode_put8 g64) else if m = 65 then some (ct_reals_Key g65) else if m = 66 then some (ct_keycode_escaped g66) else none, N := 49, body := Go.Proofs.Tryd.f46.body.getD .skip, rvs := [.tmp 4], rts := [74], nin := 0, rmv := [0], segs := [seg_keycode_put_0 s0] }
def keycode_put.c {β : Type} (g64 : G_keycode_put8) (g65 : G_reals_Key) (g66 : G_keycode_escaped) (s0 : S_keycode_put_0) (a0 : Int) (a1 : Int) (a2 : Int) (a3 : ByteArray) (a4 : List Int) (ret : ((List Int)) → Option β) : Option β := (bif (decide ((((List.length a4) + (1 : Nat)) * (1 : Nat)) ≤ (35184372088832 : Nat))) then (bif (a0 == (1 : Int)) then (bif (decide ((((List.length (a4 ++ [(IntKind.wrap IntKind.u8 a0)])) + (1 : Nat)) * (1 : Nat)) ≤ (35184372088832 : Nat))) then (ret (((a4 ++ [(IntKind.wrap IntKind.u8 a0)]) ++ [(IntKind.wrap IntKind.u8 a1)]))) else none) else (bif (a0 == (2 : Int)) then ((g64 (IntKind.wrap IntKind.u64 ((BitVec.toNat ((BitVec.ofInt (64 : Nat) (IntKind.wrap IntKind.u64 a1)) ^^^ (BitVec.ofInt (64 : Nat) (9223372036854775808 : Int)))) : Int)) (a4 ++ [(IntKind.wrap IntKind.u8 a0)])).bind fun r0 => (ret (r0))) else (bif (a0 == (3 : Int)) then ((g65 a2).bind fun r1 => ((g64 r1 (a4 ++ [(IntKind.wrap IntKind.u8 a0)])).bind fun r2 => (ret (r2)))) else (bif (a0 == (4 : Int)) then (bif (a0 == (4 : Int)) then ((g66 a3).bind fun r3 => ((s0 r3 (a4 ++ [(IntKind.wrap IntKind.u8 a0)])).bind ret)) else (ret ((a4 ++ [(IntKind.wrap IntKind.u8 a0)])))) else (bif (a0 == (5 : Int)) then ((g66 a3).bind fun r4 => ((s0 r4 (a4 ++ [(IntKind.wrap IntKind.u8 a0)])).bind ret)) else (ret ((a4 ++ [(IntKind.wrap IntKind.u8 a0)])))))))) else none)
theorem keycode_put.c_bind {β : Type} {g64 : G_keycode_put8} {g65 : G_reals_Key} {g66 : G_keycode_escaped} {s0 : S_keycode_put_0} {a0 : Int} {a1 : Int} {a2 : Int} {a3 : ByteArray} {a4 : List Int} {ret : ((List Int)) → Option β} : keycode_put.c g64 g65 g66 s0 a0 a1 a2 a3 a4 ret = (keycode_put.c g64 g65 g66 s0 a0 a1 a2 a3 a4 some).bind ret := by
  simp only [keycode_put.c, bif_bind, sum_bind, Option.bind_assoc, Option.bind_some, Option.bind_none, Option.bind_fun_some]
theorem keycode_put.ev {g64 : G_keycode_put8} {g65 : G_reals_Key} {g66 : G_keycode_escaped} {s0 : S_keycode_put_0} {a0 : Int} {a1 : Int} {a2 : Int} {a3 : ByteArray} {a4 : List Int} : evAt (env_keycode_put g64 g65 g66 s0) [] [0, 1] [.v (.one (.own 0)), .v (.agg [(.d (.int .i64) a0), (.d (.int .i64) a1), (.d (.int .u64) a2), (.d .str a3)])] [some (.own (.int .u8) false a4)] some = keycode_put.c g64 g65 g66 s0 a0 a1 a2 a3 a4 (fun r => some ⟨.v (.one (.own 0)), [some (.own (.int .u8) false r)]⟩) := by
  kernel_rfl
theorem keycode_put.ev_nil {g64 : G_keycode_put8} {g65 : G_reals_Key} {g66 : G_keycode_escaped} {s0 : S_keycode_put_0} {a0 : Int} {a1 : Int} {a2 : Int} {a3 : ByteArray} : evAt (env_keycode_put g64 g65 g66 s0) [] [0, 1] [.v (.one (.raw (.slice none 0 0))), .v (.agg [(.d (.int .i64) a0), (.d (.int .i64) a1), (.d (.int .u64) a2), (.d .str a3)])] [] some = keycode_put.c g64 g65 g66 s0 a0 a1 a2 a3 [] (fun r => some ⟨.v (.one (.own 0)), [some (.own (.int .u8) false r)]⟩) := by
  kernel_rfl
def keycode_put.s0 (k : Nat) : ByteArray → (List Int) → Option ((List Int)) := fun s xs => bif decide (xs.length + 2 * s.size + 2 ≤ 2 ^ 45) then some (xs ++ (escTo s s.size ++ [0, 0])) else none
def keycode_put.f (k : Nat) (a0 : Int) (a1 : Int) (a2 : Int) (a3 : ByteArray) (a4 : List Int) : Option ((List Int)) := keycode_put.c (keycode_put8.f k) (reals_Key.f k) (keycode_escaped.f k) (keycode_put.s0 k) a0 a1 a2 a3 a4 some
/-! the loop over escaped's bytes -/
def keycode_put.blkOf (s : ByteArray) (ys : List Int) (n : Nat) : Option (Option Blk) := [some (.box [.own 2]), some (.box [.d .str s]), some (.own (.int .u8) false ys)][n]?
noncomputable def keycode_put.bodyOps : Array Oper := match codeAt (Go.Proofs.Tryd.f46.body.getD .skip) [4, 1, 2, 1, 3, 1, 3, 1, 3, 1, 4, 1, 0, 1, 1] with
  | some (.rangeFunc _ _ _ (.block _ (.region _ ops _)), _) => ops
  | _ => #[]
noncomputable def keycode_put.endOps : Array Oper := match codeAt (Go.Proofs.Tryd.f46.body.getD .skip) [0, 1, 1, 1] with
  | some (.region _ ops _, _) => ops
  | _ => #[]
noncomputable def keycode_put.E0 : Env := { P := Go.Proofs.Tryd.prog, ct := fun _ => none, N := 49 }
theorem keycode_put.body_plain : plainOps keycode_put.bodyOps = true := by kernel_rfl
theorem keycode_put.end_plain : plainOps keycode_put.endOps = true := by kernel_rfl
theorem keycode_put.body_ev (s : ByteArray) (ys : List Int) (x : Int) : evOps keycode_put.E0 keycode_put.bodyOps 100 (fun st _ => ((packN 2 [] [] : AM _).run st []).map (·.1)) (List.range keycode_put.bodyOps.size)
    (stOf [2, 5] [.v (.one (.ptr 0 0)), .v (.one (.d (.int .u8) x))] [some (.box [.own 2]), some (.box [.d .str s]), some (.own (.int .u8) false ys)]) [] =
      bif decide ((ys.length + 1) * 1 ≤ 2 ^ 45) then some ([], [some (.box [.own 2]), some (.box [.d .str s]), some (.own (.int .u8) false (ys ++ [x]))]) else none := by
  kernel_rfl
theorem keycode_put.end_ev (s : ByteArray) (ys : List Int) : evOps keycode_put.E0 keycode_put.endOps 100 (fun st _ => ((do packN 0 [] [← AM.rT 4] : AM _).run st []).map (·.1)) (List.range keycode_put.endOps.size)
    (stOf [2] [.v (.one (.ptr 0 0))] [some (.box [.own 2]), some (.box [.d .str s]), some (.own (.int .u8) false ys)]) [] = some ([.v (.one (.own 0))], [some (.own (.int .u8) false ys)]) := by
  kernel_rfl
set_option maxHeartbeats 1000000 in
theorem keycode_put.s0_hand (g51 : Int → (List Int) → Option ((List Int))) (g52 : Int → Option Int) (g53 : ByteArray → Option ByteArray) (s0 : ByteArray → (List Int) → Option ((List Int))) (k : Nat) :
    SegOK (env_keycode_put g51 g52 g53 s0) Go.Proofs.Tryd.f46 (seg_keycode_put_0 (keycode_put.s0 k)) := by
  intro tvs blks res h c stk hc X w S ρ H a hX hR
  simp only [seg_keycode_put_0] at h hc hR
  split at h
  · rename_i s xs
    simp only [keycode_put.s0] at h
    by_cases hlen : xs.length + 2 * s.size + 2 ≤ 2 ^ 45
    · rw [decide_eq_true hlen] at h
      simp only [cond_true, Option.bind_some, Option.some.injEq] at h
      subst h
      simp only [env_keycode_put, Go.Proofs.Tryd.f46, Option.getD_some, codeAt, Option.some.injEq, Prod.mk.injEq] at hc
      obtain ⟨rfl, rfl⟩ := hc
      have hN : (env_keycode_put g51 g52 g53 s0).N = 49 := rfl
      have hmem : Mem X w S ρ H (keycode_put.blkOf s xs) := hR.mem
      -- the state
      obtain ⟨b0, hb0, ht2⟩ : ∃ b, ρ 0 = some (Ptr b 0) ∧ a.tmps.getD 2 undef = Ptr b 0 := hR.tmp 2 _ rfl
      obtain ⟨vs, ht42, hvs⟩ : ∃ vs : Array Value, a.tmps.getD 42 undef = .func (.func 82) #[] vs ∧ All2 (fun (p : Nat × Nat) u => ∃ b, ρ p.1 = some (Ptr b 0) ∧ u = Ptr b p.2) [(1, 0)] vs.toList := hR.tmp 42 _ rfl
      obtain ⟨u, l, hul, ⟨b1, hb1, rfl⟩, hl⟩ := All2.cons_left hvs
      rw [hl.nil_left] at hul
      obtain rfl : vs = #[Ptr b1 0] := by apply Array.toList_inj.1; rw [hul]
      -- the text's box
      have hcell : ∀ {X : Cx} {W : World} {S : Nat → Prop} {ρ1 : Nat → Option Value} {H1 : Nat → Option Nat} {blk : Nat → Option (Option Blk)}, Mem X W S ρ1 H1 blk → blk 1 = some (some (.box [.d .str s])) → ρ1 1 = some (Ptr b1 0) → W.cell? ⟨b1, 0, none⟩ = some (.string s) := by
        intro X W S ρ1 H1 blk hm hb h1
        obtain ⟨b, vs, e, _, h2, h3, h4⟩ := hm.rep 1 _ hb
        rw [h1] at h2
        simp at h2; subst h2
        obtain ⟨v, m, hv, hr, hn⟩ := All2.cons_left h4
        rw [hn.nil_left] at hv
        have hv0 : vs = #[v] := by apply Array.toList_inj.1; rw [hv]
        have : v = .string s := by simpa [RepAV, Rd] using hr
        simp [World.cell?, h3, hv0, this]
      have hc0 := hcell hmem rfl hb1
      have hb1lt : b1 < w.heap.size := by
        obtain ⟨b, vs, e, _, h2, h3, h4⟩ := hmem.rep 1 _ rfl
        rw [hb1] at h2
        simp at h2; subst h2
        exact (Array.getElem?_eq_some_iff.1 h3).1
      show Code.wp _ _ _ _ _
      refine (wpIn_wide (n := 5)).1 ?_
      obtain ⟨X1, hX1⟩ : ∃ X1, X1 = Mem.cx X w S ρ H (keycode_put.blkOf s xs) 2 := ⟨_, rfl⟩
      have hm1 : Mem X1 w S ρ H (keycode_put.blkOf s xs) := hX1 ▸ hmem.restart 2
      have hw1 : X1.w0 = w := by rw [hX1]; rfl
      have hS1 : X1.S0 = S := by rw [hX1]; rfl
      have hX0 : ∀ n, X.ρ0 n = none := by
        intro n
        cases hn : X.ρ0 n with
        | none => rfl
        | some v => exact absurd (hX n v hn) (by simp [env_keycode_put])
      have hρ1 : ∀ n v, X1.ρ0 n = some v → n < 2 := by
        intro n v hn
        rw [hX1] at hn
        simp only [Mem.cx, hX0] at hn
        split at hn
        · assumption
        · simp at hn
      have hmpB : ∀ (ys : List Int) (n : Nat) (B : Blk), keycode_put.blkOf s ys n = some (some B) → B.isMp = false := by
        intro ys n B hB
        match n with
        | 0 => simp [keycode_put.blkOf] at hB; subst hB; rfl
        | 1 => simp [keycode_put.blkOf] at hB; subst hB; rfl
        | 2 => simp [keycode_put.blkOf] at hB; subst hB; rfl
        | n + 3 => simp [keycode_put.blkOf] at hB
      have hnames : ∀ {W : World} {S' : Nat → Prop} {ρ1 : Nat → Option Value} {H1 : Nat → Option Nat} {blk : Nat → Option (Option Blk)}, Mem X1 W S' ρ1 H1 blk → ρ1 0 = some (Ptr b0 0) ∧ ρ1 1 = some (Ptr b1 0) := by
        intro W S' ρ1 H1 blk hm
        exact ⟨hm.names 0 _ (by rw [hX1]; simp [Mem.cx, hb0]), hm.names 1 _ (by rw [hX1]; simp [Mem.cx, hb1])⟩
      refine wpIn_rangeFunc_ownF (F := Fence.wide) rfl (by omega) (gf := 82) (lb := #[Ptr b1 0]) ht42 trivial (enters_of Go.Proofs.Tryd.func82 (by kernel_rfl) rfl) (encs := fun x : Int => #[.int .u8 x])
        (Kp := KC b1) (w0 := w) (esc_stops Fence.wide 4 trivial rfl (by omega) b1 s w hc0 hb1lt (by omega)) (fun h1 h2 => h2.trans h1) ?hKb (RowKit.Below.refl _ _) (fun _ => rfl)
        (fun pre W => ∃ S1 ρ1 H1, Mem X1 W S1 ρ1 H1 (keycode_put.blkOf s (xs ++ pre)) ∧ ∀ b, S1 b → S b ∨ ∃ (vs : Array Value) (e : TypeId) (fr : Nat × Nat), W.heap[b]? = some (Obj.cells vs e fr)) (fun _ _ _ => False) ?hI (fun _ _ _ _ _ h _ _ => h) ⟨S, ρ, H, by rw [List.append_nil]; exact hm1, fun b h => .inl h⟩
        (fun x => { tmps := (a.tmps.setIfInBounds 43 (.int .u8 x)).setIfInBounds 5 (.int .u8 x), defers := [] }) ?assign ?body ?done (fun _ _ _ _ _ _ h _ => h.elim)
      case hKb =>
        intro W l o o' hl _ _ _
        show (W.putObj l o').cell? _ = W.cell? _
        unfold World.cell?
        rw [World.putObj_heap_other (by show b1 ≠ l; omega)]
      case hI =>
        rintro pre W W' row ⟨S1, ρ1, H1, hm, hc⟩ hg hr
        have hnr : ∀ r, row = some r → ¬ S1 r := by
          intro r e hS
          obtain ⟨h1, o, h2, h3⟩ := hr r e
          rcases hc r hS with h4 | ⟨vs, e', fr, h4⟩
          · have := hmem.old r h4; omega
          · rw [h4] at h2; cases h2; simp [Obj.isCells] at h3
        refine ⟨S1, ρ1, H1, hm.turned hg (hmpB _) hnr (by rw [hw1]; exact hr), fun b hb => ?_⟩
        rcases hc b hb with h4 | ⟨vs, e', fr, h4⟩
        · exact .inl h4
        · refine .inr ⟨vs, e', fr, ?_⟩
          rw [← h4]
          exact hg.block b (Array.getElem?_eq_some_iff.1 h4).1 (fun e => hnr b e.symm hb)
      case assign =>
        intro l x W K hK
        refine wpIn_region ?_
        have hsz : 49 ≤ a.tmps.size := hR.size
        have hv : ((a.tmps.setIfInBounds 43 (Value.int IntKind.u8 x)).getD 43 undef) = .int .u8 x := by
          rw [Array.getD_eq_getD_getElem?, Array.getElem?_setIfInBounds_self_of_lt (by omega)]; rfl
        simp [wpOpsIn, Region.wanted, Oper.wpIn]
        refine ⟨fun _ _ => trivial, ?_⟩
        rw [show (some l) = (Fence.wide.inRound l).round from rfl, Oper.semAt_plain (Fence.wide.inRound l) _ _ (by intro c h; cases h)]
        have hrun : (execOp (Act.eval { tmps := a.tmps.setIfInBounds 43 (Value.int IntKind.u8 x), defers := [] }) { dst := some 5, op := Op.assign (Operand.tmp 43), type := 5, pos := "keycode.go:57", after := #[], guard := none }).run Go.Proofs.Tryd.prog W = .ok (.value (.int .u8 x)) W := by
          simp [execOp, Act.eval, hv]
        exact (congrArg _ hrun).mpr hK
      case body =>
        rintro l pre x W ⟨S1, ρ1, H1, hm, hc⟩ hlt
        obtain ⟨hn0, hn1⟩ := hnames hm
        have hsz : 49 ≤ a.tmps.size := hR.size
        obtain ⟨X2, hX2⟩ : ∃ X2, X2 = Mem.cx X1 W S1 ρ1 H1 (keycode_put.blkOf s (xs ++ pre)) 2 := ⟨_, rfl⟩
        have hm2 : Mem X2 W S1 ρ1 H1 (keycode_put.blkOf s (xs ++ pre)) := hX2 ▸ hm.restart 2
        have hρ2 : ∀ n v, X2.ρ0 n = some v → n < 2 := by
          intro n v hn
          rw [hX2] at hn
          simp only [Mem.cx] at hn
          split at hn
          · assumption
          · exact hρ1 n v hn
        refine wpIn_block ?_
        have hRb : Rep X2 W S1 ρ1 H1 keycode_put.E0.N (stOf [2, 5] [.v (.one (.ptr 0 0)), .v (.one (.d (.int .u8) x))] [some (.box [.own 2]), some (.box [.d .str s]), some (.own (.int .u8) false (xs ++ pre))])
            { tmps := (a.tmps.setIfInBounds 43 (.int .u8 x)).setIfInBounds 5 (.int .u8 x), defers := [] } := by
          refine { mem := hm2, tmp := ?_, size := by simpa [keycode_put.E0] using hsz, defers := rfl }
          intro t v ht
          obtain ⟨i, h1, h2⟩ := stOf_tmp ht
          match i with
          | 0 =>
            simp at h1 h2; subst h1; subst h2
            refine ⟨b0, hn0, ?_⟩
            rw [Array.getD_eq_getD_getElem?] at ht2 ⊢
            rw [Array.getElem?_setIfInBounds_ne (by decide), Array.getElem?_setIfInBounds_ne (by decide)]
            exact ht2
          | 1 =>
            simp at h1 h2; subst h1; subst h2
            rw [Array.getD_eq_getD_getElem?, Array.getElem?_setIfInBounds_self_of_lt (by simp; omega)]
            exact rfl
          | i + 2 => simp at h1
        have hle : (xs ++ pre).length + 1 ≤ 2 ^ 45 := by simp; omega
        have hev := keycode_put.body_ev s (xs ++ pre) x
        rw [Nat.mul_one, decide_eq_true hle] at hev
        refine region_in (E := keycode_put.E0) (ds := []) (fun _ => trivial) keycode_put.body_plain hev hRb ?_
        intro st' lg a' W' S' ρ' H' hK hR' hd hM
        simp only [Option.map_eq_some_iff] at hK
        obtain ⟨r, hr, he⟩ := hK
        obtain ⟨ρ'', H'', hm3, _⟩ := packN_rep hr (st2 := st') (fun _ _ => rfl) hR'.mem hρ2 (vals := []) trivial
        rw [he] at hm3
        have hsame : ∀ b, S1 b → W'.heap[b]? = W.heap[b]? := by
          intro b hb
          have := hm3.same b (by rw [hX2]; exact hm.old b hb) (by
            rw [hX2]
            rintro ⟨n, B, h1, h2⟩
            exact hm.apart n B b h1 h2 hb)
          rw [this, hX2]; rfl
        have hm4 : Mem X2 W' (fun b => S' b ∧ (S b ∨ ∃ (vs : Array Value) (e : TypeId) (fr : Nat × Nat), W'.heap[b]? = some (Obj.cells vs e fr))) ρ'' H'' (keycode_put.blkOf s (xs ++ (pre ++ [x]))) := by
          rw [← List.append_assoc]
          refine hm3.shrink (fun b hb => ?_) (fun b hb => hb.1) (fun n B h => ⟨B, h⟩) (fun n h => h) ?_ ?_
          · have hb1 : S1 b := by rw [hX2] at hb; exact hb
            refine ⟨hm3.s0 b hb, ?_⟩
            rcases hc b hb1 with h4 | ⟨vs, e', fr, h4⟩
            · exact .inl h4
            · exact .inr ⟨vs, e', fr, (hsame b hb1).trans h4⟩
          · intro n B hB
            have := hm3.rep n B hB
            match n with
            | 0 =>
              simp [keycode_put.blkOf] at hB; subst hB
              obtain ⟨b, vs, e, h1, h2, h3, h4⟩ := this
              obtain ⟨v, m, hv, hr, hn⟩ := All2.cons_left h4
              refine ⟨b, vs, e, h1, h2, h3, ?_⟩
              rw [hv, hn.nil_left]
              exact ⟨hr, trivial⟩
            | 1 =>
              simp [keycode_put.blkOf] at hB; subst hB
              obtain ⟨b, vs, e, h1, h2, h3, h4⟩ := this
              obtain ⟨v, m, hv, hr, hn⟩ := All2.cons_left h4
              refine ⟨b, vs, e, h1, h2, h3, ?_⟩
              rw [hv, hn.nil_left]
              exact ⟨hr, trivial⟩
            | 2 =>
              simp [keycode_put.blkOf] at hB; subst hB
              obtain ⟨v, h1, ⟨b, h2, h3⟩ | ⟨h2, h3, h4, h5⟩⟩ := this
              · exact ⟨v, h1, .inl ⟨b, h2, h3⟩⟩
              · refine ⟨v, h1, .inr ⟨h2, h3, ?_, h5⟩⟩
                obtain ⟨base, len, cap, q1, q2, q3, q4, q5, q6⟩ := h4
                refine ⟨base, len, cap, q1, q2, q3, q4, q5, fun hx => ?_⟩
                obtain ⟨p, hp, hSp, hrow⟩ := q6 hx
                refine ⟨p, hp, ⟨hSp, .inr ?_⟩, hrow⟩
                obtain ⟨us, ⟨c, e, fr, hh, _⟩, _⟩ := hrow 0 (List.length_pos_iff.2 hx)
                exact ⟨c, e, fr, hh⟩
            | n + 3 => simp [keycode_put.blkOf] at hB
          · exact fun p hp => ⟨⟨(hm3.gl p hp).1, .inl (hR.mem.gl p hp).1⟩, (hm3.gl p hp).2⟩
        have hcells : ∀ n B b, keycode_put.blkOf s (xs ++ pre) n = some (some B) → H1 n = some b → ∃ (vs : Array Value) (e : TypeId), W.heap[b]? = some (Obj.cells vs e (0, 0)) := by
          intro n B b h1 h2
          have := hm.rep n B h1
          rw [h2] at this
          exact this.cells (hmpB _ n B h1)
        show KeepsOthers W W' ∧ KC b1 W W' ∧ _
        refine ⟨⟨?_, fun k o hk ho => ?_⟩, ?_, fun b => S' b ∧ (S b ∨ ∃ (vs : Array Value) (e : TypeId) (fr : Nat × Nat), W'.heap[b]? = some (Obj.cells vs e fr)), ρ'', H'', ?_, fun b hb => hb.2⟩
        · have := hm4.size; rw [hX2] at this; exact this
        · have := hm4.same k (by rw [hX2]; exact (Array.getElem?_eq_some_iff.1 hk).1) (by
            rw [hX2]
            rintro ⟨n, B, h1, h2⟩
            obtain ⟨vs, e, h3⟩ := hcells n B k h1 h2
            rw [h3] at hk; cases hk; simp [Obj.isCells] at ho)
          rw [this, hX2]; exact hk
        · exact (hcell hm4 rfl (hm4.names 1 _ (by rw [hX2]; simp [Mem.cx, hn1]))).trans (hcell hm rfl hn1).symm
        · rw [hX2] at hm4; exact hm.chain hm4
      case done =>
        rintro D ys W hD rfl ⟨S1, ρ1, H1, hm, hc⟩ hK
        obtain ⟨hn0, hn1⟩ := hnames hm
        have hsz : 49 ≤ a.tmps.size := hR.size
        have hmX : Mem X W S1 ρ1 H1 (keycode_put.blkOf s (xs ++ (escTo s s.size ++ [0, 0]))) := hmem.chain (hX1 ▸ hm)
        obtain ⟨X2, hX2⟩ : ∃ X2, X2 = Mem.cx X W S1 ρ1 H1 (keycode_put.blkOf s (xs ++ (escTo s s.size ++ [0, 0]))) 0 := ⟨_, rfl⟩
        have hm2 : Mem X2 W S1 ρ1 H1 (keycode_put.blkOf s (xs ++ (escTo s s.size ++ [0, 0]))) := hX2 ▸ hmX.restart 0
        have hρ2 : ∀ n v, X2.ρ0 n = some v → n < 0 := by
          intro n v hn
          rw [hX2] at hn
          simp [Mem.cx, hX0] at hn
        have hcells : ∀ n B b, keycode_put.blkOf s (xs ++ (escTo s s.size ++ [0, 0])) n = some (some B) → H1 n = some b → ∃ (vs : Array Value) (e : TypeId), W.heap[b]? = some (Obj.cells vs e (0, 0)) := by
          intro n B b h1 h2
          have := hm.rep n B h1
          rw [h2] at this
          exact this.cells (hmpB _ n B h1)
        have hDlt : D < W.heap.size := (Array.getElem?_eq_some_iff.1 hK).1
        have hnM : ¬ X2.M0 D := by
          rw [hX2]
          rintro ⟨n, B, h1, h2⟩
          obtain ⟨vs, e, h3⟩ := hcells n B D h1 h2
          rw [h3] at hK; cases hK
        have hnS1 : ¬ S1 D := by
          intro hS
          rcases hc D hS with h4 | ⟨vs, e, fr, h4⟩
          · have := hmem.old D h4; omega
          · rw [h4] at hK; cases hK
        show Code.wp _ (Code.seq _ Code.ret) _ _ _
        refine (wpIn_wide (n := 5)).1 (wpIn_seq ?_)
        have hRd : Rep X2 W S1 ρ1 H1 keycode_put.E0.N (stOf [2] [.v (.one (.ptr 0 0))] [some (.box [.own 2]), some (.box [.d .str s]), some (.own (.int .u8) false (xs ++ (escTo s s.size ++ [0, 0])))]) { a with defers := [] } := by
          refine { mem := hm2, tmp := ?_, size := by simpa [keycode_put.E0] using hsz, defers := rfl }
          intro t v ht
          obtain ⟨i, h1, h2⟩ := stOf_tmp ht
          match i with
          | 0 =>
            simp at h1 h2; subst h1; subst h2
            exact ⟨b0, hn0, ht2⟩
          | i + 1 => simp at h1
        refine region_in (E := keycode_put.E0) (ds := []) (fun _ => trivial) keycode_put.end_plain (keycode_put.end_ev s _) hRd ?_
        intro st' lg a' W' S' ρ' H' hK2 hR' hd hM
        simp only [Option.map_eq_some_iff] at hK2
        obtain ⟨r, hr, he⟩ := hK2
        obtain ⟨tv, lg1, h1, h2⟩ := run_bind_some hr
        have hv4 : RepTV W' S' ρ' tv (a'.tmps.getD 4 undef) := hR'.tmp _ _ (run_rT h1)
        obtain ⟨ρ'', H'', hm3, hv3⟩ := packN_rep h2 (st2 := st') (fun _ _ => rfl) hR'.mem hρ2 (tvs := [tv]) (vals := [a'.tmps.getD 4 undef]) ⟨hv4, trivial⟩
        rw [he] at hm3 hv3
        have hKD : W'.heap[D]? = some (.deferred (some [])) := by
          rw [hm3.same D (by rw [hX2]; exact hDlt) hnM, hX2]; exact hK
        have hnS' : ¬ S' D := by
          intro hS
          rcases hm3.smine D hS with h4 | h4 | h4
          · rw [hX2] at h4; exact hnS1 h4
          · exact hnM h4
          · rw [hX2] at h4
            exact absurd h4 (Nat.not_le.2 hDlt)
        have hmf : Mem X W' S' ρ'' H'' (fun n => [some (Blk.own (Ty.int IntKind.u8) false (xs ++ (escTo s s.size ++ [0, 0])))][n]?) := by
          rw [hX2] at hm3; exact hmX.chain hm3
        refine wpIn_ret ?_
        show LeavesInM Fence.wide 5 _ _ a'.tmps _ a'.defers .returning W'
        rw [hd, hR.defers]
        refine ⟨by simp, .inl ⟨D, _, rfl, run_takeDeferred hKD, ?_⟩⟩
        refine ⟨a'.tmps.getD 4 undef, results_tmp rfl _ _ _, _, S', ρ'', H'', rfl, hmf.turned (grownBy_putObj' W' D _) (fun n B hB => by
          match n with
          | 0 => simp at hB; subst hB; rfl
          | n + 1 => simp at hB) (fun r e => by cases e; exact hnS') (fun r e => by cases e; exact ⟨Nat.le_trans hmem.size hD, _, hKD, rfl⟩), hv3.1⟩
    · rw [decide_eq_false hlen] at h; simp at h
  · simp at h
theorem keycode_put.is {g64 : G_keycode_put8} {g65 : G_reals_Key} {g66 : G_keycode_escaped} {s0 : S_keycode_put_0} : FnIs (env_keycode_put g64 g65 g66 s0) 46 Go.Proofs.Tryd.f46 := ⟨Go.Proofs.Tryd.func46, rfl, rfl, rfl, by decide⟩
theorem keycode_put.envok {g64 : G_keycode_put8} {g65 : G_reals_Key} {g66 : G_keycode_escaped} {s0 : S_keycode_put_0} (h64 : CtOK Go.Proofs.Tryd.prog 64 (ct_keycode_put8 g64)) (h65 : CtOK Go.Proofs.Tryd.prog 65 (ct_reals_Key g65)) (h66 : CtOK Go.Proofs.Tryd.prog 66 (ct_keycode_escaped g66)) : EnvOK (env_keycode_put g64 g65 g66 s0).toEnv := by
  intro f c h
  simp only [env_keycode_put] at h
  split at h
  · rename_i e; subst e; cases h; exact h64
  split at h
  · rename_i e; subst e; cases h; exact h65
  split at h
  · rename_i e; subst e; cases h; exact h66
  simp at h
noncomputable abbrev keycode_put.E (k : Nat) : FEnv := env_keycode_put (keycode_put8.f k) (reals_Key.f k) (keycode_escaped.f k) (keycode_put.s0 k)
theorem keycode_put.hE (k : Nat) : EnvOK (keycode_put.E k).toEnv := keycode_put.envok (keycode_put8.ok k) (reals_Key.ok k) (keycode_escaped.ok k)
theorem keycode_put.segs_ok : ∀ k, ∀ s ∈ (keycode_put.E k).segs, SegOK (keycode_put.E k) Go.Proofs.Tryd.f46 s
  | 0 => by
    intro s hs
    simp only [keycode_put.E, env_keycode_put, List.mem_cons, List.not_mem_nil, or_false] at hs
    rcases hs with rfl
    · exact keycode_put.s0_hand _ _ _ _  _
  | k + 1 => by
    intro s hs
    simp only [keycode_put.E, env_keycode_put, List.mem_cons, List.not_mem_nil, or_false] at hs
    rcases hs with rfl
    · exact keycode_put.s0_hand _ _ _ _  _
theorem keycode_put.ok (k : Nat) : CtOK Go.Proofs.Tryd.prog 46 (ct_keycode_put (keycode_put.f k)) := by
  refine ct_of_ev (E := keycode_put.E k) keycode_put.is (keycode_put.hE k) (keycode_put.segs_ok k) rfl ?_
  intro tvs blks res h
  simp only [ct_keycode_put] at h
  split at h
  · exact (keycode_put.ev.trans keycode_put.c_bind).trans h
  · exact (keycode_put.ev_nil.trans keycode_put.c_bind).trans h
  · simp at h

/-! ### keycode_Put: function 37 -/
abbrev G_keycode_Put : Type := Int → Int → Int → ByteArray → Option (ByteArray × Int)
def ct_keycode_Put (g : G_keycode_Put) : Ct where
  nin := 0
  mv := []
  F := fun tvs blks {β} K => match tvs, blks with
    | [.v (.agg [(.d (.int .i64) a0), (.d (.int .i64) a1), (.d (.int .u64) a2), (.d .str a3)])], [] => (g a0 a1 a2 a3).bind fun r => K ⟨.tup [(.one (.d .str r.1)), (.one (.d (.int .i64) r.2))], []⟩
    | _, _ => none
  legit := fun tvs blks K r h => by
    split at h
    · obtain ⟨x, hx, hk⟩ := Option.bind_eq_some_iff.1 h
      refine ⟨_, ?_, hk⟩
      simp only [hx, Option.bind_some]
    · simp at h
noncomputable def env_keycode_Put (g45 : G_values_Check) (g46 : G_keycode_put)  : FEnv := { P := Go.Proofs.Tryd.prog, ct := fun m => if m = 45 then some (ct_values_Check g45) else if m = 46 then some (ct_keycode_put g46) else none, N := 13, body := Go.Proofs.Tryd.f37.body.getD .skip, rvs := [.tmp 2, .tmp 3], rts := [9, 27], nin := 0, rmv := [], segs := [] }
def keycode_Put.c {β : Type} (g45 : G_values_Check) (g46 : G_keycode_put)  (a0 : Int) (a1 : Int) (a2 : Int) (a3 : ByteArray) (ret : (ByteArray × Int) → Option β) : Option β := ((g45 a0 a1 a2 a3).bind fun r0 => (bif (r0 != (0 : Int)) then (ret ((ByteArray.mk (List.toArray [])), r0)) else ((g46 a0 a1 a2 a3 []).bind fun r1 => (ret ((ByteArray.mk (List.toArray (List.map (fun n => (UInt8.ofNat (Int.toNat n))) r1))), (0 : Int))))))
theorem keycode_Put.c_bind {β : Type} {g45 : G_values_Check} {g46 : G_keycode_put}  {a0 : Int} {a1 : Int} {a2 : Int} {a3 : ByteArray} {ret : (ByteArray × Int) → Option β} : keycode_Put.c g45 g46  a0 a1 a2 a3 ret = (keycode_Put.c g45 g46  a0 a1 a2 a3 some).bind ret := by
  simp only [keycode_Put.c, bif_bind, sum_bind, Option.bind_assoc, Option.bind_some, Option.bind_none, Option.bind_fun_some]
theorem keycode_Put.ev {g45 : G_values_Check} {g46 : G_keycode_put}  {a0 : Int} {a1 : Int} {a2 : Int} {a3 : ByteArray} : evAt (env_keycode_Put g45 g46 ) [] [0] [.v (.agg [(.d (.int .i64) a0), (.d (.int .i64) a1), (.d (.int .u64) a2), (.d .str a3)])] [] some = keycode_Put.c g45 g46  a0 a1 a2 a3 (fun r => some ⟨.tup [(.one (.d .str r.1)), (.one (.d (.int .i64) r.2))], []⟩) := by
  kernel_rfl
def keycode_Put.f (k : Nat) (a0 : Int) (a1 : Int) (a2 : Int) (a3 : ByteArray) : Option (ByteArray × Int) := keycode_Put.c (values_Check.f k) (keycode_put.f k)  a0 a1 a2 a3 some
theorem keycode_Put.is {g45 : G_values_Check} {g46 : G_keycode_put}  : FnIs (env_keycode_Put g45 g46 ) 37 Go.Proofs.Tryd.f37 := ⟨Go.Proofs.Tryd.func37, rfl, rfl, rfl, by decide⟩
theorem keycode_Put.envok {g45 : G_values_Check} {g46 : G_keycode_put}  (h45 : CtOK Go.Proofs.Tryd.prog 45 (ct_values_Check g45)) (h46 : CtOK Go.Proofs.Tryd.prog 46 (ct_keycode_put g46)) : EnvOK (env_keycode_Put g45 g46 ).toEnv := by
  intro f c h
  simp only [env_keycode_Put] at h
  split at h
  · rename_i e; subst e; cases h; exact h45
  split at h
  · rename_i e; subst e; cases h; exact h46
  simp at h
noncomputable abbrev keycode_Put.E (k : Nat) : FEnv := env_keycode_Put (values_Check.f k) (keycode_put.f k) 
theorem keycode_Put.hE (k : Nat) : EnvOK (keycode_Put.E k).toEnv := keycode_Put.envok (values_Check.ok k) (keycode_put.ok k)
theorem keycode_Put.ok (k : Nat) : CtOK Go.Proofs.Tryd.prog 37 (ct_keycode_Put (keycode_Put.f k)) := by
  refine ct_of_ev (E := keycode_Put.E k) keycode_Put.is (keycode_Put.hE k) (fun s hs => by simp [keycode_Put.E, env_keycode_Put] at hs) rfl ?_
  intro tvs blks res h
  simp only [ct_keycode_Put] at h
  split at h
  · exact (keycode_Put.ev.trans keycode_Put.c_bind).trans h
  · simp at h
end Go.Proofs.YtddlebbjaadbeaaDoor.Aev
