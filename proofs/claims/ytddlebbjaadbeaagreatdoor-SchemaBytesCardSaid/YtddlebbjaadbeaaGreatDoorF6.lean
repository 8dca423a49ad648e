/- By a program of this session (AEV): functions of the program as plain functions, and that the machine does what they say. -/
import Derived.Test.YtddlebbjaadbeaaGreatDoorTys
import Derived.Test.YtddlebbjaadbeaaGreatDoorProg
import Derived.Laws.Externs
import Derived.Lib.Bytealg
import Derived.Test.YtddlebbjaadbeaaGreatDoorF2
import Derived.Test.YtddlebbjaadbeaaGreatDoorF4
import Derived.Test.YtddlebbjaadbeaaGreatDoorF5
namespace Go.Proofs.YtddlebbjaadbeaaGreatDoor.Aev
set_option linter.unusedVariables false
set_option linter.unusedSimpArgs false
set_option maxRecDepth 100000
set_option maxHeartbeats 4000000
open Go Go.Proofs.Tryz
namespace schema_FitsKey
abbrev G : Type := ByteArray → Int → (List D_api_Col) → (List D_api_Value) → Bool → Option Int
def ct (g : G) : Ct where
  nin := 0
  mv := []
  F := fun tvs blks {β} K => match tvs, blks with
    | [.v (.agg [(.d .str a0), (.d (.int .i64) a1), (.d (.sl (.pair .str (.pair (.int .i64) (.pair .bool (.pair (.pair (.int .i64) (.pair (.int .i64) (.pair (.int .u64) (.pair .str .unit)))) .unit))))) a2)]), .v (.one (.d (.sl (.pair (.int .i64) (.pair (.int .i64) (.pair (.int .u64) (.pair .str .unit))))) a3)), .v (.one (.d .bool a4))], [] => (g a0 a1 a2 a3 a4).bind fun r => K ⟨.v (.one (.d (.int .i64) r)), []⟩
    | _, _ => none
  legit := fun _ _ K _ h => by split at h; exact (legit1 K h :); simp at h
noncomputable def env (g22 : schema_Check.G) (g27 : schema_fits.G)  : FEnv := { P := prog, ct := fun m => if m = 22 then some (schema_Check.ct g22) else if m = 27 then some (schema_fits.ct g27) else none, N := 32, body := f12.body.getD .skip, rvs := [.tmp 6], rts := [29], nin := 0, rmv := [], segs := [] }
def c {β : Type} (g22 : schema_Check.G) (g27 : schema_fits.G)  (a0 : ByteArray) (a1 : Int) (a2 : List D_api_Col) (a3 : List D_api_Value) (a4 : Bool) (ret : Int → Option β) : Option β := ((g22 a0 a1 a2).bind fun r0 => (bif (r0 != (0 : Int)) then (ret (r0)) else (bif (decide (((List.length a3) : Int) > a1)) then (ret ((11 : Int))) else (bif a4 then (bif (decide (((List.length a3) : Int) < a1)) then (ret ((11 : Int))) else ((g27 a0 a1 a2 a3).bind fun r1 => (ret (r1)))) else ((g27 a0 a1 a2 a3).bind fun r2 => (ret (r2)))))))
theorem c_bind {β : Type} {g22 : schema_Check.G} {g27 : schema_fits.G}  {a0 : ByteArray} {a1 : Int} {a2 : List D_api_Col} {a3 : List D_api_Value} {a4 : Bool} {ret : Int → Option β} : c g22 g27  a0 a1 a2 a3 a4 ret = (c g22 g27  a0 a1 a2 a3 a4 some).bind ret := by
  simp only [c, bif_bind, sum_bind, oa, os, on, ofs]
theorem ev {g22 : schema_Check.G} {g27 : schema_fits.G}  {a0 : ByteArray} {a1 : Int} {a2 : List D_api_Col} {a3 : List D_api_Value} {a4 : Bool} : evAt (env g22 g27 ) [] [0, 1, 2] [.v (.agg [(.d .str a0), (.d (.int .i64) a1), (.d (.sl T_api_Col) a2)]), .v (.one (.d (.sl T_api_Value) a3)), .v (.one (.d .bool a4))] [] some = c g22 g27  a0 a1 a2 a3 a4 (fun r => some ⟨.v (.one (.d (.int .i64) r)), []⟩) := by
  kernel_rfl
def f (k : Nat) (a0 : ByteArray) (a1 : Int) (a2 : List D_api_Col) (a3 : List D_api_Value) (a4 : Bool) : Option Int := c (schema_Check.f k) (schema_fits.f k)  a0 a1 a2 a3 a4 some
theorem is {g22 : schema_Check.G} {g27 : schema_fits.G}  : FnIs (env g22 g27 ) 12 f12 := ⟨func12, rfl, rfl, rfl, by decide⟩
theorem envok {g22 : schema_Check.G} {g27 : schema_fits.G}  (h22 : CtOK prog 22 (schema_Check.ct g22)) (h27 : CtOK prog 27 (schema_fits.ct g27)) : EnvOK (env g22 g27 ).toEnv := by
  intro f c h
  simp only [env] at h
  split at h
  · rename_i e; subst e; cases h; exact h22
  split at h
  · rename_i e; subst e; cases h; exact h27
  simp at h
noncomputable abbrev E (k : Nat) : FEnv := env (schema_Check.f k) (schema_fits.f k) 
theorem hE (k : Nat) : EnvOK (E k).toEnv := envok (schema_Check.ok k) (schema_fits.ok k)
theorem ok (k : Nat) : CtOK prog 12 (ct (f k)) := by
  refine ct_of_ev (E := E k) is (hE k) (fun s hs => by simp [E, env] at hs) rfl ?_
  intro tvs blks res h
  simp only [ct] at h
  split at h
  · exact (ev.trans c_bind).trans h
  · simp at h
end schema_FitsKey
namespace pack_Uint
abbrev G : Type := Int → Option ByteArray
def ct (g : G) : Ct where
  nin := 0
  mv := []
  F := fun tvs blks {β} K => match tvs, blks with
    | [.v (.one (.d (.int .u64) a0))], [] => (g a0).bind fun r => K ⟨.v (.one (.d .str r)), []⟩
    | _, _ => none
  legit := fun _ _ K _ h => by split at h; exact (legit1 K h :); simp at h
abbrev S0 : Type := Int → (List Int) → Option ByteArray
def sg0 (g : S0) : Seg where
  path := [4, 0, 1, 1]
  prep := [.own 3 (.int .u8)]
  keep := [0, 3]
  F := fun tvs blks {β} K => match tvs, blks with
    | [.v (.one (.d (.int .u64) x0)), .v (.one (.own 0))], [some (.own (.int .u8) false x1)] => (g x0 x1).bind fun r => K ⟨.v (.one (.d .str r)), []⟩
    | _, _ => none
  legit := fun _ _ K _ h => by split at h; exact (legit1 K h :); simp at h
noncomputable def env  (s0 : S0) : FEnv := { P := prog, ct := fun m => none, N := 20, body := f31.body.getD .skip, rvs := [.tmp 2], rts := [9], nin := 0, rmv := [], segs := [sg0 s0] }
def c {β : Type}  (s0 : S0) (a0 : Int) (ret : ByteArray → Option β) : Option β := ((s0 a0 []).bind ret)
def s0c {β : Type}  (s0 : S0) (x0 : Int) (x1 : List Int) (ret : ByteArray → Option β) : Option β := (bif (decide (x0 > (127 : Int))) then (bif (decide ((((List.length x1) + (1 : Nat)) * (1 : Nat)) ≤ (35184372088832 : Nat))) then ((s0 (Int.fdiv x0 (128 : Int)) (x1 ++ [(IntKind.wrap IntKind.u8 ((BitVec.toNat ((BitVec.ofInt (8 : Nat) (IntKind.wrap IntKind.u8 x0)) ||| (BitVec.ofInt (8 : Nat) (128 : Int)))) : Int))])).bind ret) else none) else (bif (decide ((((List.length x1) + (1 : Nat)) * (1 : Nat)) ≤ (35184372088832 : Nat))) then (ret ((ByteArray.mk (List.toArray (List.map (fun n => (UInt8.ofNat (Int.toNat n))) (x1 ++ [(IntKind.wrap IntKind.u8 x0)])))))) else none))
theorem c_bind {β : Type}  {s0 : S0} {a0 : Int} {ret : ByteArray → Option β} : c  s0 a0 ret = (c  s0 a0 some).bind ret := by
  simp only [c, bif_bind, sum_bind, oa, os, on, ofs]
theorem s0c_bind {β : Type}  {s0 : S0} {x0 : Int} {x1 : List Int} {ret : ByteArray → Option β} : s0c  s0 x0 x1 ret = (s0c  s0 x0 x1 some).bind ret := by
  simp only [s0c, bif_bind, sum_bind, oa, os, on, ofs]
theorem ev  {s0 : S0} {a0 : Int} : evAt (env  s0) [] [0] [.v (.one (.d (.int .u64) a0))] [] some = c  s0 a0 (fun r => some ⟨.v (.one (.d .str r)), []⟩) := by
  kernel_rfl
theorem s0_ev  {s0 : S0} {x0 : Int} {x1 : List Int} : evAt (env  s0) [4, 0, 1, 1] [0, 3] [.v (.one (.d (.int .u64) x0)), .v (.one (.own 0))] [some (.own (.int .u8) false x1)] some = s0c  s0 x0 x1 (fun r => some ⟨.v (.one (.d .str r)), []⟩) := by
  kernel_rfl
def s0 : Nat → Int → (List Int) → Option ByteArray
  | 0, _, _ => none
  | k + 1, x0, x1 => s0c  (s0 k) x0 x1 some
def f (k : Nat) (a0 : Int) : Option ByteArray := c  (s0 k) a0 some
theorem is  {s0 : S0} : FnIs (env  s0) 31 f31 := ⟨func31, rfl, rfl, rfl, by decide⟩
theorem envok  {s0 : S0}  : EnvOK (env  s0).toEnv := by
  intro f c h
  simp only [env] at h
  simp at h
noncomputable abbrev E (k : Nat) : FEnv := env  (s0 k)
theorem hE (k : Nat) : EnvOK (E k).toEnv := envok 
theorem segs_ok : ∀ k, ∀ s ∈ (E k).segs, SegOK (E k) f31 s
  | 0 => by
    intro s hs
    simp only [E, env, List.mem_cons, List.not_mem_nil, or_false] at hs
    rcases hs with rfl
    · intro tvs blks res h; exfalso; simp only [sg0] at h; split at h <;> simp [s0] at h
  | k + 1 => by
    intro s hs
    simp only [E, env, List.mem_cons, List.not_mem_nil, or_false] at hs
    rcases hs with rfl
    · refine seg_of_ev (E := E k) (hE k) ⟨is.rvs⟩ (segs_ok k) ?_
      intro tvs blks res h
      simp only [sg0] at h
      split at h
      · exact (s0_ev.trans s0c_bind).trans h
      · simp at h
theorem ok (k : Nat) : CtOK prog 31 (ct (f k)) := by
  refine ct_of_ev (E := E k) is (hE k) (segs_ok k) rfl ?_
  intro tvs blks res h
  simp only [ct] at h
  split at h
  · exact (ev.trans c_bind).trans h
  · simp at h
end pack_Uint
namespace pack_Text
abbrev G : Type := ByteArray → Option ByteArray
def ct (g : G) : Ct where
  nin := 0
  mv := []
  F := fun tvs blks {β} K => match tvs, blks with
    | [.v (.one (.d .str a0))], [] => (g a0).bind fun r => K ⟨.v (.one (.d .str r)), []⟩
    | _, _ => none
  legit := fun _ _ K _ h => by split at h; exact (legit1 K h :); simp at h
noncomputable def env (g31 : pack_Uint.G)  : FEnv := { P := prog, ct := fun m => if m = 31 then some (pack_Uint.ct g31) else none, N := 9, body := f30.body.getD .skip, rvs := [.tmp 2], rts := [9], nin := 0, rmv := [], segs := [] }
def c {β : Type} (g31 : pack_Uint.G)  (a0 : ByteArray) (ret : ByteArray → Option β) : Option β := ((g31 (IntKind.wrap IntKind.u64 ((ByteArray.size a0) : Int))).bind fun r0 => (bif ((decide ((ByteArray.size r0) ≤ (4611686018427387903 : Nat))) && (decide ((ByteArray.size a0) ≤ (4611686018427387903 : Nat)))) then (ret ((r0 ++ a0))) else none))
theorem c_bind {β : Type} {g31 : pack_Uint.G}  {a0 : ByteArray} {ret : ByteArray → Option β} : c g31  a0 ret = (c g31  a0 some).bind ret := by
  simp only [c, bif_bind, sum_bind, oa, os, on, ofs]
theorem ev {g31 : pack_Uint.G}  {a0 : ByteArray} : evAt (env g31 ) [] [0] [.v (.one (.d .str a0))] [] some = c g31  a0 (fun r => some ⟨.v (.one (.d .str r)), []⟩) := by
  kernel_rfl
def f (k : Nat) (a0 : ByteArray) : Option ByteArray := c (pack_Uint.f k)  a0 some
theorem is {g31 : pack_Uint.G}  : FnIs (env g31 ) 30 f30 := ⟨func30, rfl, rfl, rfl, by decide⟩
theorem envok {g31 : pack_Uint.G}  (h31 : CtOK prog 31 (pack_Uint.ct g31)) : EnvOK (env g31 ).toEnv := by
  intro f c h
  simp only [env] at h
  split at h
  · rename_i e; subst e; cases h; exact h31
  simp at h
noncomputable abbrev E (k : Nat) : FEnv := env (pack_Uint.f k) 
theorem hE (k : Nat) : EnvOK (E k).toEnv := envok (pack_Uint.ok k)
theorem ok (k : Nat) : CtOK prog 30 (ct (f k)) := by
  refine ct_of_ev (E := E k) is (hE k) (fun s hs => by simp [E, env] at hs) rfl ?_
  intro tvs blks res h
  simp only [ct] at h
  split at h
  · exact (ev.trans c_bind).trans h
  · simp at h
end pack_Text
namespace keycode_Put
abbrev G : Type := Int → Int → Int → ByteArray → Option (ByteArray × Int)
def ct (g : G) : Ct where
  nin := 0
  mv := []
  F := fun tvs blks {β} K => match tvs, blks with
    | [.v (.agg [(.d (.int .i64) a0), (.d (.int .i64) a1), (.d (.int .u64) a2), (.d .str a3)])], [] => (g a0 a1 a2 a3).bind fun r => K ⟨.tup [(.one (.d .str r.1)), (.one (.d (.int .i64) r.2))], []⟩
    | _, _ => none
  legit := fun _ _ K _ h => by split at h; exact (legit1 K h :); simp at h
noncomputable def env (g52 : values_Check.G) (g53 : keycode_put.G)  : FEnv := { P := prog, ct := fun m => if m = 52 then some (values_Check.ct g52) else if m = 53 then some (keycode_put.ct g53) else none, N := 13, body := f32.body.getD .skip, rvs := [.tmp 2, .tmp 3], rts := [9, 29], nin := 0, rmv := [], segs := [] }
def c {β : Type} (g52 : values_Check.G) (g53 : keycode_put.G)  (a0 : Int) (a1 : Int) (a2 : Int) (a3 : ByteArray) (ret : (ByteArray × Int) → Option β) : Option β := ((g52 a0 a1 a2 a3).bind fun r0 => (bif (r0 != (0 : Int)) then (ret ((ByteArray.mk (List.toArray [])), r0)) else ((g53 a0 a1 a2 a3 []).bind fun r1 => (ret ((ByteArray.mk (List.toArray (List.map (fun n => (UInt8.ofNat (Int.toNat n))) r1))), (0 : Int))))))
theorem c_bind {β : Type} {g52 : values_Check.G} {g53 : keycode_put.G}  {a0 : Int} {a1 : Int} {a2 : Int} {a3 : ByteArray} {ret : (ByteArray × Int) → Option β} : c g52 g53  a0 a1 a2 a3 ret = (c g52 g53  a0 a1 a2 a3 some).bind ret := by
  simp only [c, bif_bind, sum_bind, oa, os, on, ofs]
theorem ev {g52 : values_Check.G} {g53 : keycode_put.G}  {a0 : Int} {a1 : Int} {a2 : Int} {a3 : ByteArray} : evAt (env g52 g53 ) [] [0] [.v (.agg [(.d (.int .i64) a0), (.d (.int .i64) a1), (.d (.int .u64) a2), (.d .str a3)])] [] some = c g52 g53  a0 a1 a2 a3 (fun r => some ⟨.tup [(.one (.d .str r.1)), (.one (.d (.int .i64) r.2))], []⟩) := by
  kernel_rfl
def f (k : Nat) (a0 : Int) (a1 : Int) (a2 : Int) (a3 : ByteArray) : Option (ByteArray × Int) := c (values_Check.f k) (keycode_put.f k)  a0 a1 a2 a3 some
theorem is {g52 : values_Check.G} {g53 : keycode_put.G}  : FnIs (env g52 g53 ) 32 f32 := ⟨func32, rfl, rfl, rfl, by decide⟩
theorem envok {g52 : values_Check.G} {g53 : keycode_put.G}  (h52 : CtOK prog 52 (values_Check.ct g52)) (h53 : CtOK prog 53 (keycode_put.ct g53)) : EnvOK (env g52 g53 ).toEnv := by
  intro f c h
  simp only [env] at h
  split at h
  · rename_i e; subst e; cases h; exact h52
  split at h
  · rename_i e; subst e; cases h; exact h53
  simp at h
noncomputable abbrev E (k : Nat) : FEnv := env (values_Check.f k) (keycode_put.f k) 
theorem hE (k : Nat) : EnvOK (E k).toEnv := envok (values_Check.ok k) (keycode_put.ok k)
theorem ok (k : Nat) : CtOK prog 32 (ct (f k)) := by
  refine ct_of_ev (E := E k) is (hE k) (fun s hs => by simp [E, env] at hs) rfl ?_
  intro tvs blks res h
  simp only [ct] at h
  split at h
  · exact (ev.trans c_bind).trans h
  · simp at h
end keycode_Put
namespace schema_Put
abbrev G : Type := ByteArray → Int → (List D_api_Col) → Option (ByteArray × Int)
def ct (g : G) : Ct where
  nin := 0
  mv := []
  F := fun tvs blks {β} K => match tvs, blks with
    | [.v (.agg [(.d .str a0), (.d (.int .i64) a1), (.d (.sl (.pair .str (.pair (.int .i64) (.pair .bool (.pair (.pair (.int .i64) (.pair (.int .i64) (.pair (.int .u64) (.pair .str .unit)))) .unit))))) a2)])], [] => (g a0 a1 a2).bind fun r => K ⟨.tup [(.one (.d .str r.1)), (.one (.d (.int .i64) r.2))], []⟩
    | _, _ => none
  legit := fun _ _ K _ h => by split at h; exact (legit1 K h :); simp at h
abbrev S0 : Type := ByteArray → (List D_api_Col) → Int → Int → Option (ByteArray × Int)
abbrev S1 : Type := ByteArray → ByteArray → (List D_api_Col) → Int → Int → ByteArray → Int → Bool → Int → Int → Int → ByteArray → Option (ByteArray × Int)
abbrev S2 : Type := ByteArray → (List D_api_Col) → Int → Int → Option (ByteArray × Int)
def sg0 (g : S0) : Seg where
  path := [4, 1, 0, 1, 1, 1]
  prep := []
  keep := [5, 31, 32, 33]
  F := fun tvs blks {β} K => match tvs, blks with
    | [.v (.one (.d .str x0)), .v (.one (.d (.sl (.pair .str (.pair (.int .i64) (.pair .bool (.pair (.pair (.int .i64) (.pair (.int .i64) (.pair (.int .u64) (.pair .str .unit)))) .unit))))) x1)), .v (.one (.d (.int .i64) x2)), .v (.one (.d (.int .i64) x3))], [] => (g x0 x1 x2 x3).bind fun r => K ⟨.tup [(.one (.d .str r.1)), (.one (.d (.int .i64) r.2))], []⟩
    | _, _ => none
  legit := fun _ _ K _ h => by split at h; exact (legit1 K h :); simp at h
def sg1 (g : S1) : Seg where
  path := [1, 1, 1, 4, 0, 1, 1, 5, 4, 1, 0, 1, 1, 1]
  prep := []
  keep := [5, 7, 8, 31, 32, 33]
  F := fun tvs blks {β} K => match tvs, blks with
    | [.v (.one (.d .str x0)), .v (.one (.ptr 0 0)), .v (.one (.d .str x1)), .v (.one (.d (.sl (.pair .str (.pair (.int .i64) (.pair .bool (.pair (.pair (.int .i64) (.pair (.int .i64) (.pair (.int .u64) (.pair .str .unit)))) .unit))))) x2)), .v (.one (.d (.int .i64) x3)), .v (.one (.d (.int .i64) x4))], [some (.box [(.d .str x5), (.d (.int .i64) x6), (.d .bool x7), (.d (.int .i64) x8), (.d (.int .i64) x9), (.d (.int .u64) x10), (.d .str x11)])] => (g x0 x1 x2 x3 x4 x5 x6 x7 x8 x9 x10 x11).bind fun r => K ⟨.tup [(.one (.d .str r.1)), (.one (.d (.int .i64) r.2))], []⟩
    | _, _ => none
  legit := fun _ _ K _ h => by split at h; exact (legit1 K h :); simp at h
def sg2 (g : S2) : Seg where
  path := [1, 1, 1, 5, 4, 1, 0, 1, 1, 1]
  prep := []
  keep := [5, 31, 32, 33]
  F := fun tvs blks {β} K => match tvs, blks with
    | [.v (.one (.d .str x0)), .v (.one (.d (.sl (.pair .str (.pair (.int .i64) (.pair .bool (.pair (.pair (.int .i64) (.pair (.int .i64) (.pair (.int .u64) (.pair .str .unit)))) .unit))))) x1)), .v (.one (.d (.int .i64) x2)), .v (.one (.d (.int .i64) x3))], [] => (g x0 x1 x2 x3).bind fun r => K ⟨.tup [(.one (.d .str r.1)), (.one (.d (.int .i64) r.2))], []⟩
    | _, _ => none
  legit := fun _ _ K _ h => by split at h; exact (legit1 K h :); simp at h
noncomputable def env (g22 : schema_Check.G) (g30 : pack_Text.G) (g31 : pack_Uint.G) (g32 : keycode_Put.G) (s0 : S0) (s1 : S1) (s2 : S2) : FEnv := { P := prog, ct := fun m => if m = 22 then some (schema_Check.ct g22) else if m = 30 then some (pack_Text.ct g30) else if m = 31 then some (pack_Uint.ct g31) else if m = 32 then some (keycode_Put.ct g32) else none, N := 61, body := f14.body.getD .skip, rvs := [.tmp 2, .tmp 3], rts := [9, 29], nin := 0, rmv := [], segs := [sg0 s0, sg1 s1, sg2 s2] }
def c {β : Type} (g22 : schema_Check.G) (g30 : pack_Text.G) (g31 : pack_Uint.G) (g32 : keycode_Put.G) (s0 : S0) (s1 : S1) (s2 : S2) (a0 : ByteArray) (a1 : Int) (a2 : List D_api_Col) (ret : (ByteArray × Int) → Option β) : Option β := ((g22 a0 a1 a2).bind fun r0 => (bif (r0 != (0 : Int)) then (ret ((ByteArray.mk (List.toArray [])), r0)) else ((g30 a0).bind fun r1 => ((g31 (IntKind.wrap IntKind.u64 a1)).bind fun r2 => (bif ((decide ((ByteArray.size r1) ≤ (4611686018427387903 : Nat))) && (decide ((ByteArray.size r2) ≤ (4611686018427387903 : Nat)))) then ((g31 (IntKind.wrap IntKind.u64 ((List.length a2) : Int))).bind fun r3 => (bif ((decide ((ByteArray.size (r1 ++ r2)) ≤ (4611686018427387903 : Nat))) && (decide ((ByteArray.size r3) ≤ (4611686018427387903 : Nat)))) then ((s0 ((r1 ++ r2) ++ r3) a2 ((List.length a2) : Int) (0 : Int)).bind ret) else none)) else none)))))
def s0c {β : Type} (g22 : schema_Check.G) (g30 : pack_Text.G) (g31 : pack_Uint.G) (g32 : keycode_Put.G) (s0 : S0) (s1 : S1) (s2 : S2) (x0 : ByteArray) (x1 : List D_api_Col) (x2 : Int) (x3 : Int) (ret : (ByteArray × Int) → Option β) : Option β := (bif (decide (x3 < x2)) then (bif ((decide ((0 : Int) ≤ x3)) && (decide (x3 < ((List.length x1) : Int)))) then (bif (elem T_api_Col x1 x3).2.2.1 then ((s1 x0 (ByteArray.mk (List.toArray [(1 : UInt8)])) x1 x2 x3 (elem T_api_Col x1 x3).1 (elem T_api_Col x1 x3).2.1 (elem T_api_Col x1 x3).2.2.1 (elem T_api_Col x1 x3).2.2.2.1.1 (elem T_api_Col x1 x3).2.2.2.1.2.1 (elem T_api_Col x1 x3).2.2.2.1.2.2.1 (elem T_api_Col x1 x3).2.2.2.1.2.2.2.1).bind ret) else ((s1 x0 (ByteArray.mk (List.toArray [(0 : UInt8)])) x1 x2 x3 (elem T_api_Col x1 x3).1 (elem T_api_Col x1 x3).2.1 (elem T_api_Col x1 x3).2.2.1 (elem T_api_Col x1 x3).2.2.2.1.1 (elem T_api_Col x1 x3).2.2.2.1.2.1 (elem T_api_Col x1 x3).2.2.2.1.2.2.1 (elem T_api_Col x1 x3).2.2.2.1.2.2.2.1).bind ret)) else none) else (ret (x0, (0 : Int))))
def s1c {β : Type} (g22 : schema_Check.G) (g30 : pack_Text.G) (g31 : pack_Uint.G) (g32 : keycode_Put.G) (s0 : S0) (s1 : S1) (s2 : S2) (x0 : ByteArray) (x1 : ByteArray) (x2 : List D_api_Col) (x3 : Int) (x4 : Int) (x5 : ByteArray) (x6 : Int) (x7 : Bool) (x8 : Int) (x9 : Int) (x10 : Int) (x11 : ByteArray) (ret : (ByteArray × Int) → Option β) : Option β := ((g32 x8 x9 x10 x11).bind fun r0 => ((g30 x5).bind fun r1 => ((g31 (IntKind.wrap IntKind.u64 x6)).bind fun r2 => (bif ((decide ((ByteArray.size r1) ≤ (4611686018427387903 : Nat))) && (decide ((ByteArray.size r2) ≤ (4611686018427387903 : Nat)))) then (bif ((decide ((ByteArray.size (r1 ++ r2)) ≤ (4611686018427387903 : Nat))) && (decide ((ByteArray.size x1) ≤ (4611686018427387903 : Nat)))) then (bif ((decide ((ByteArray.size ((r1 ++ r2) ++ x1)) ≤ (4611686018427387903 : Nat))) && (decide ((ByteArray.size r0.1) ≤ (4611686018427387903 : Nat)))) then (bif ((decide ((ByteArray.size x0) ≤ (4611686018427387903 : Nat))) && (decide ((ByteArray.size (((r1 ++ r2) ++ x1) ++ r0.1)) ≤ (4611686018427387903 : Nat)))) then ((s2 (x0 ++ (((r1 ++ r2) ++ x1) ++ r0.1)) x2 x3 x4).bind ret) else none) else none) else none) else none))))
def s2c {β : Type} (g22 : schema_Check.G) (g30 : pack_Text.G) (g31 : pack_Uint.G) (g32 : keycode_Put.G) (s0 : S0) (s1 : S1) (s2 : S2) (x0 : ByteArray) (x1 : List D_api_Col) (x2 : Int) (x3 : Int) (ret : (ByteArray × Int) → Option β) : Option β := ((s0 x0 x1 x2 (IntKind.wrap IntKind.i64 (x3 + (1 : Int)))).bind ret)
theorem c_bind {β : Type} {g22 : schema_Check.G} {g30 : pack_Text.G} {g31 : pack_Uint.G} {g32 : keycode_Put.G} {s0 : S0} {s1 : S1} {s2 : S2} {a0 : ByteArray} {a1 : Int} {a2 : List D_api_Col} {ret : (ByteArray × Int) → Option β} : c g22 g30 g31 g32 s0 s1 s2 a0 a1 a2 ret = (c g22 g30 g31 g32 s0 s1 s2 a0 a1 a2 some).bind ret := by
  simp only [c, bif_bind, sum_bind, oa, os, on, ofs]
theorem s0c_bind {β : Type} {g22 : schema_Check.G} {g30 : pack_Text.G} {g31 : pack_Uint.G} {g32 : keycode_Put.G} {s0 : S0} {s1 : S1} {s2 : S2} {x0 : ByteArray} {x1 : List D_api_Col} {x2 : Int} {x3 : Int} {ret : (ByteArray × Int) → Option β} : s0c g22 g30 g31 g32 s0 s1 s2 x0 x1 x2 x3 ret = (s0c g22 g30 g31 g32 s0 s1 s2 x0 x1 x2 x3 some).bind ret := by
  simp only [s0c, bif_bind, sum_bind, oa, os, on, ofs]
theorem s1c_bind {β : Type} {g22 : schema_Check.G} {g30 : pack_Text.G} {g31 : pack_Uint.G} {g32 : keycode_Put.G} {s0 : S0} {s1 : S1} {s2 : S2} {x0 : ByteArray} {x1 : ByteArray} {x2 : List D_api_Col} {x3 : Int} {x4 : Int} {x5 : ByteArray} {x6 : Int} {x7 : Bool} {x8 : Int} {x9 : Int} {x10 : Int} {x11 : ByteArray} {ret : (ByteArray × Int) → Option β} : s1c g22 g30 g31 g32 s0 s1 s2 x0 x1 x2 x3 x4 x5 x6 x7 x8 x9 x10 x11 ret = (s1c g22 g30 g31 g32 s0 s1 s2 x0 x1 x2 x3 x4 x5 x6 x7 x8 x9 x10 x11 some).bind ret := by
  simp only [s1c, bif_bind, sum_bind, oa, os, on, ofs]
theorem s2c_bind {β : Type} {g22 : schema_Check.G} {g30 : pack_Text.G} {g31 : pack_Uint.G} {g32 : keycode_Put.G} {s0 : S0} {s1 : S1} {s2 : S2} {x0 : ByteArray} {x1 : List D_api_Col} {x2 : Int} {x3 : Int} {ret : (ByteArray × Int) → Option β} : s2c g22 g30 g31 g32 s0 s1 s2 x0 x1 x2 x3 ret = (s2c g22 g30 g31 g32 s0 s1 s2 x0 x1 x2 x3 some).bind ret := by
  simp only [s2c, bif_bind, sum_bind, oa, os, on, ofs]
theorem ev {g22 : schema_Check.G} {g30 : pack_Text.G} {g31 : pack_Uint.G} {g32 : keycode_Put.G} {s0 : S0} {s1 : S1} {s2 : S2} {a0 : ByteArray} {a1 : Int} {a2 : List D_api_Col} : evAt (env g22 g30 g31 g32 s0 s1 s2) [] [0] [.v (.agg [(.d .str a0), (.d (.int .i64) a1), (.d (.sl T_api_Col) a2)])] [] some = c g22 g30 g31 g32 s0 s1 s2 a0 a1 a2 (fun r => some ⟨.tup [(.one (.d .str r.1)), (.one (.d (.int .i64) r.2))], []⟩) := by
  kernel_rfl
theorem s0_ev {g22 : schema_Check.G} {g30 : pack_Text.G} {g31 : pack_Uint.G} {g32 : keycode_Put.G} {s0 : S0} {s1 : S1} {s2 : S2} {x0 : ByteArray} {x1 : List D_api_Col} {x2 : Int} {x3 : Int} : evAt (env g22 g30 g31 g32 s0 s1 s2) [4, 1, 0, 1, 1, 1] [5, 31, 32, 33] [.v (.one (.d .str x0)), .v (.one (.d (.sl T_api_Col) x1)), .v (.one (.d (.int .i64) x2)), .v (.one (.d (.int .i64) x3))] [] some = s0c g22 g30 g31 g32 s0 s1 s2 x0 x1 x2 x3 (fun r => some ⟨.tup [(.one (.d .str r.1)), (.one (.d (.int .i64) r.2))], []⟩) := by
  kernel_rfl
theorem s1_ev {g22 : schema_Check.G} {g30 : pack_Text.G} {g31 : pack_Uint.G} {g32 : keycode_Put.G} {s0 : S0} {s1 : S1} {s2 : S2} {x0 : ByteArray} {x1 : ByteArray} {x2 : List D_api_Col} {x3 : Int} {x4 : Int} {x5 : ByteArray} {x6 : Int} {x7 : Bool} {x8 : Int} {x9 : Int} {x10 : Int} {x11 : ByteArray} : evAt (env g22 g30 g31 g32 s0 s1 s2) [1, 1, 1, 4, 0, 1, 1, 5, 4, 1, 0, 1, 1, 1] [5, 7, 8, 31, 32, 33] [.v (.one (.d .str x0)), .v (.one (.ptr 0 0)), .v (.one (.d .str x1)), .v (.one (.d (.sl T_api_Col) x2)), .v (.one (.d (.int .i64) x3)), .v (.one (.d (.int .i64) x4))] [some (.box [(.d .str x5), (.d (.int .i64) x6), (.d .bool x7), (.d (.int .i64) x8), (.d (.int .i64) x9), (.d (.int .u64) x10), (.d .str x11)])] some = s1c g22 g30 g31 g32 s0 s1 s2 x0 x1 x2 x3 x4 x5 x6 x7 x8 x9 x10 x11 (fun r => some ⟨.tup [(.one (.d .str r.1)), (.one (.d (.int .i64) r.2))], []⟩) := by
  kernel_rfl
theorem s2_ev {g22 : schema_Check.G} {g30 : pack_Text.G} {g31 : pack_Uint.G} {g32 : keycode_Put.G} {s0 : S0} {s1 : S1} {s2 : S2} {x0 : ByteArray} {x1 : List D_api_Col} {x2 : Int} {x3 : Int} : evAt (env g22 g30 g31 g32 s0 s1 s2) [1, 1, 1, 5, 4, 1, 0, 1, 1, 1] [5, 31, 32, 33] [.v (.one (.d .str x0)), .v (.one (.d (.sl T_api_Col) x1)), .v (.one (.d (.int .i64) x2)), .v (.one (.d (.int .i64) x3))] [] some = s2c g22 g30 g31 g32 s0 s1 s2 x0 x1 x2 x3 (fun r => some ⟨.tup [(.one (.d .str r.1)), (.one (.d (.int .i64) r.2))], []⟩) := by
  kernel_rfl
mutual
def s0 : Nat → ByteArray → (List D_api_Col) → Int → Int → Option (ByteArray × Int)
  | 0, _, _, _, _ => none
  | k + 1, x0, x1, x2, x3 => s0c (schema_Check.f k) (pack_Text.f k) (pack_Uint.f k) (keycode_Put.f k) (s0 k) (s1 k) (s2 k) x0 x1 x2 x3 some
def s1 : Nat → ByteArray → ByteArray → (List D_api_Col) → Int → Int → ByteArray → Int → Bool → Int → Int → Int → ByteArray → Option (ByteArray × Int)
  | 0, _, _, _, _, _, _, _, _, _, _, _, _ => none
  | k + 1, x0, x1, x2, x3, x4, x5, x6, x7, x8, x9, x10, x11 => s1c (schema_Check.f k) (pack_Text.f k) (pack_Uint.f k) (keycode_Put.f k) (s0 k) (s1 k) (s2 k) x0 x1 x2 x3 x4 x5 x6 x7 x8 x9 x10 x11 some
def s2 : Nat → ByteArray → (List D_api_Col) → Int → Int → Option (ByteArray × Int)
  | 0, _, _, _, _ => none
  | k + 1, x0, x1, x2, x3 => s2c (schema_Check.f k) (pack_Text.f k) (pack_Uint.f k) (keycode_Put.f k) (s0 k) (s1 k) (s2 k) x0 x1 x2 x3 some
end
def f (k : Nat) (a0 : ByteArray) (a1 : Int) (a2 : List D_api_Col) : Option (ByteArray × Int) := c (schema_Check.f k) (pack_Text.f k) (pack_Uint.f k) (keycode_Put.f k) (s0 k) (s1 k) (s2 k) a0 a1 a2 some
theorem is {g22 : schema_Check.G} {g30 : pack_Text.G} {g31 : pack_Uint.G} {g32 : keycode_Put.G} {s0 : S0} {s1 : S1} {s2 : S2} : FnIs (env g22 g30 g31 g32 s0 s1 s2) 14 f14 := ⟨func14, rfl, rfl, rfl, by decide⟩
theorem envok {g22 : schema_Check.G} {g30 : pack_Text.G} {g31 : pack_Uint.G} {g32 : keycode_Put.G} {s0 : S0} {s1 : S1} {s2 : S2} (h22 : CtOK prog 22 (schema_Check.ct g22)) (h30 : CtOK prog 30 (pack_Text.ct g30)) (h31 : CtOK prog 31 (pack_Uint.ct g31)) (h32 : CtOK prog 32 (keycode_Put.ct g32)) : EnvOK (env g22 g30 g31 g32 s0 s1 s2).toEnv := by
  intro f c h
  simp only [env] at h
  split at h
  · rename_i e; subst e; cases h; exact h22
  split at h
  · rename_i e; subst e; cases h; exact h30
  split at h
  · rename_i e; subst e; cases h; exact h31
  split at h
  · rename_i e; subst e; cases h; exact h32
  simp at h
noncomputable abbrev E (k : Nat) : FEnv := env (schema_Check.f k) (pack_Text.f k) (pack_Uint.f k) (keycode_Put.f k) (s0 k) (s1 k) (s2 k)
theorem hE (k : Nat) : EnvOK (E k).toEnv := envok (schema_Check.ok k) (pack_Text.ok k) (pack_Uint.ok k) (keycode_Put.ok k)
theorem segs_ok : ∀ k, ∀ s ∈ (E k).segs, SegOK (E k) f14 s
  | 0 => by
    intro s hs
    simp only [E, env, List.mem_cons, List.not_mem_nil, or_false] at hs
    rcases hs with rfl | rfl | rfl
    · intro tvs blks res h; exfalso; simp only [sg0] at h; split at h <;> simp [s0] at h
    · intro tvs blks res h; exfalso; simp only [sg1] at h; split at h <;> simp [s1] at h
    · intro tvs blks res h; exfalso; simp only [sg2] at h; split at h <;> simp [s2] at h
  | k + 1 => by
    intro s hs
    simp only [E, env, List.mem_cons, List.not_mem_nil, or_false] at hs
    rcases hs with rfl | rfl | rfl
    · refine seg_of_ev (E := E k) (hE k) ⟨is.rvs⟩ (segs_ok k) ?_
      intro tvs blks res h
      simp only [sg0] at h
      split at h
      · exact (s0_ev.trans s0c_bind).trans h
      · simp at h
    · refine seg_of_ev (E := E k) (hE k) ⟨is.rvs⟩ (segs_ok k) ?_
      intro tvs blks res h
      simp only [sg1] at h
      split at h
      · exact (s1_ev.trans s1c_bind).trans h
      · simp at h
    · refine seg_of_ev (E := E k) (hE k) ⟨is.rvs⟩ (segs_ok k) ?_
      intro tvs blks res h
      simp only [sg2] at h
      split at h
      · exact (s2_ev.trans s2c_bind).trans h
      · simp at h
theorem ok (k : Nat) : CtOK prog 14 (ct (f k)) := by
  refine ct_of_ev (E := E k) is (hE k) (segs_ok k) rfl ?_
  intro tvs blks res h
  simp only [ct] at h
  split at h
  · exact (ev.trans c_bind).trans h
  · simp at h
end schema_Put
end Go.Proofs.YtddlebbjaadbeaaGreatDoor.Aev
