/- By a program of this session (AEV): functions of the program as plain functions, and that the machine does what they say. -/
import Derived.Test.YtddlebbjaadbeaaGreatDoorTys
import Derived.Test.YtddlebbjaadbeaaGreatDoorProg
import Derived.Laws.Externs
import Derived.Lib.Bytealg
namespace Go.Proofs.YtddlebbjaadbeaaGreatDoor.Aev
set_option linter.unusedVariables false
set_option linter.unusedSimpArgs false
set_option maxRecDepth 100000
set_option maxHeartbeats 4000000
open Go Go.Proofs.Tryz
namespace values_only
abbrev G : Type := Int → Int → Int → ByteArray → Option (Int × Int × Int × ByteArray)
def ct (g : G) : Ct where
  nin := 0
  mv := []
  F := fun tvs blks {β} K => match tvs, blks with
    | [.v (.agg [(.d (.int .i64) a0), (.d (.int .i64) a1), (.d (.int .u64) a2), (.d .str a3)])], [] => (g a0 a1 a2 a3).bind fun r => K ⟨.v (.agg [(.d (.int .i64) r.1), (.d (.int .i64) r.2.1), (.d (.int .u64) r.2.2.1), (.d .str r.2.2.2)]), []⟩
    | _, _ => none
  legit := fun _ _ K _ h => by split at h; exact (legit1 K h :); simp at h
abbrev S0 : Type := Int → Bool → Int → Int → Int → ByteArray → Int → Int → Int → ByteArray → Int → Int → Int → ByteArray → Option (Int × Int × Int × ByteArray)
def sg0 (g : S0) : Seg where
  path := [1, 4, 1, 0, 1, 1]
  prep := []
  keep := [1, 2, 3, 8, 9]
  F := fun tvs blks {β} K => match tvs, blks with
    | [.v (.one (.ptr 0 0)), .v (.one (.ptr 1 0)), .v (.one (.ptr 2 0)), .v (.one (.d (.int .i64) x0)), .v (.one (.d .bool x1))], [some (.box [(.d (.int .i64) x2), (.d (.int .i64) x3), (.d (.int .u64) x4), (.d .str x5)]), some (.box [(.d (.int .i64) x6), (.d (.int .i64) x7), (.d (.int .u64) x8), (.d .str x9)]), some (.box [(.d (.int .i64) x10), (.d (.int .i64) x11), (.d (.int .u64) x12), (.d .str x13)])] => (g x0 x1 x2 x3 x4 x5 x6 x7 x8 x9 x10 x11 x12 x13).bind fun r => K ⟨.v (.agg [(.d (.int .i64) r.1), (.d (.int .i64) r.2.1), (.d (.int .u64) r.2.2.1), (.d .str r.2.2.2)]), []⟩
    | _, _ => none
  legit := fun _ _ K _ h => by split at h; exact (legit1 K h :); simp at h
noncomputable def env  (s0 : S0) : FEnv := { P := prog, ct := fun m => none, N := 27, body := f73.body.getD .skip, rvs := [.cell 2 49], rts := [49], nin := 0, rmv := [], segs := [sg0 s0] }
def c {β : Type}  (s0 : S0) (a0 : Int) (a1 : Int) (a2 : Int) (a3 : ByteArray) (ret : (Int × Int × Int × ByteArray) → Option β) : Option β := (bif (a0 == (1 : Int)) then ((s0 a0 (a0 == (1 : Int)) a0 a1 a2 a3 (0 : Int) (0 : Int) (0 : Int) (ByteArray.mk (List.toArray [])) a0 (0 : Int) (0 : Int) (ByteArray.mk (List.toArray []))).bind ret) else ((s0 a0 (a0 == (2 : Int)) a0 a1 a2 a3 (0 : Int) (0 : Int) (0 : Int) (ByteArray.mk (List.toArray [])) a0 (0 : Int) (0 : Int) (ByteArray.mk (List.toArray []))).bind ret))
def s0c {β : Type}  (s0 : S0) (x0 : Int) (x1 : Bool) (x2 : Int) (x3 : Int) (x4 : Int) (x5 : ByteArray) (x6 : Int) (x7 : Int) (x8 : Int) (x9 : ByteArray) (x10 : Int) (x11 : Int) (x12 : Int) (x13 : ByteArray) (ret : (Int × Int × Int × ByteArray) → Option β) : Option β := (bif x1 then (ret (x10, x3, x12, x13)) else (bif (x0 == (3 : Int)) then (ret (x10, x11, x4, x13)) else (bif (x0 == (4 : Int)) then (bif (x0 == (4 : Int)) then (ret (x10, x11, x12, x5)) else (ret (x10, x11, x12, x13))) else (bif (x0 == (5 : Int)) then (ret (x10, x11, x12, x5)) else (ret (x10, x11, x12, x13))))))
theorem c_bind {β : Type}  {s0 : S0} {a0 : Int} {a1 : Int} {a2 : Int} {a3 : ByteArray} {ret : (Int × Int × Int × ByteArray) → Option β} : c  s0 a0 a1 a2 a3 ret = (c  s0 a0 a1 a2 a3 some).bind ret := by
  simp only [c, bif_bind, sum_bind, oa, os, on, ofs]
theorem s0c_bind {β : Type}  {s0 : S0} {x0 : Int} {x1 : Bool} {x2 : Int} {x3 : Int} {x4 : Int} {x5 : ByteArray} {x6 : Int} {x7 : Int} {x8 : Int} {x9 : ByteArray} {x10 : Int} {x11 : Int} {x12 : Int} {x13 : ByteArray} {ret : (Int × Int × Int × ByteArray) → Option β} : s0c  s0 x0 x1 x2 x3 x4 x5 x6 x7 x8 x9 x10 x11 x12 x13 ret = (s0c  s0 x0 x1 x2 x3 x4 x5 x6 x7 x8 x9 x10 x11 x12 x13 some).bind ret := by
  simp only [s0c, bif_bind, sum_bind, oa, os, on, ofs]
theorem ev  {s0 : S0} {a0 : Int} {a1 : Int} {a2 : Int} {a3 : ByteArray} : evAt (env  s0) [] [0] [.v (.agg [(.d (.int .i64) a0), (.d (.int .i64) a1), (.d (.int .u64) a2), (.d .str a3)])] [] some = c  s0 a0 a1 a2 a3 (fun r => some ⟨.v (.agg [(.d (.int .i64) r.1), (.d (.int .i64) r.2.1), (.d (.int .u64) r.2.2.1), (.d .str r.2.2.2)]), []⟩) := by
  kernel_rfl
theorem s0_ev  {s0 : S0} {x0 : Int} {x1 : Bool} {x2 : Int} {x3 : Int} {x4 : Int} {x5 : ByteArray} {x6 : Int} {x7 : Int} {x8 : Int} {x9 : ByteArray} {x10 : Int} {x11 : Int} {x12 : Int} {x13 : ByteArray} : evAt (env  s0) [1, 4, 1, 0, 1, 1] [1, 2, 3, 8, 9] [.v (.one (.ptr 0 0)), .v (.one (.ptr 1 0)), .v (.one (.ptr 2 0)), .v (.one (.d (.int .i64) x0)), .v (.one (.d .bool x1))] [some (.box [(.d (.int .i64) x2), (.d (.int .i64) x3), (.d (.int .u64) x4), (.d .str x5)]), some (.box [(.d (.int .i64) x6), (.d (.int .i64) x7), (.d (.int .u64) x8), (.d .str x9)]), some (.box [(.d (.int .i64) x10), (.d (.int .i64) x11), (.d (.int .u64) x12), (.d .str x13)])] some = s0c  s0 x0 x1 x2 x3 x4 x5 x6 x7 x8 x9 x10 x11 x12 x13 (fun r => some ⟨.v (.agg [(.d (.int .i64) r.1), (.d (.int .i64) r.2.1), (.d (.int .u64) r.2.2.1), (.d .str r.2.2.2)]), []⟩) := by
  kernel_rfl
def s0 : Nat → Int → Bool → Int → Int → Int → ByteArray → Int → Int → Int → ByteArray → Int → Int → Int → ByteArray → Option (Int × Int × Int × ByteArray)
  | 0, _, _, _, _, _, _, _, _, _, _, _, _, _, _ => none
  | k + 1, x0, x1, x2, x3, x4, x5, x6, x7, x8, x9, x10, x11, x12, x13 => s0c  (s0 k) x0 x1 x2 x3 x4 x5 x6 x7 x8 x9 x10 x11 x12 x13 some
def f (k : Nat) (a0 : Int) (a1 : Int) (a2 : Int) (a3 : ByteArray) : Option (Int × Int × Int × ByteArray) := c  (s0 k) a0 a1 a2 a3 some
theorem is  {s0 : S0} : FnIs (env  s0) 73 f73 := ⟨func73, rfl, rfl, rfl, by decide⟩
theorem envok  {s0 : S0}  : EnvOK (env  s0).toEnv := by
  intro f c h
  simp only [env] at h
  simp at h
noncomputable abbrev E (k : Nat) : FEnv := env  (s0 k)
theorem hE (k : Nat) : EnvOK (E k).toEnv := envok 
theorem segs_ok : ∀ k, ∀ s ∈ (E k).segs, SegOK (E k) f73 s
  | 0 => by
    intro s hs
    simp only [E, env, List.mem_cons, List.not_mem_nil, or_false] at hs
    rcases hs with rfl
    · intro tvs blks res h; exfalso; simp only [sg0] at h; split at h <;> simp [s0] at h
  | k + 1 => by
    intro s hs
    simp only [E, env, List.mem_cons, List.not_mem_nil, or_false] at hs
    rcases hs with rfl
    · refine seg_of_ev (E := E k) (hE k) ⟨is.rvs⟩ (segs_ok k) ?_
      intro tvs blks res h
      simp only [sg0] at h
      split at h
      · exact (s0_ev.trans s0c_bind).trans h
      · simp at h
theorem ok (k : Nat) : CtOK prog 73 (ct (f k)) := by
  refine ct_of_ev (E := E k) is (hE k) (segs_ok k) rfl ?_
  intro tvs blks res h
  simp only [ct] at h
  split at h
  · exact (ev.trans c_bind).trans h
  · simp at h
end values_only
/-! ### math_Float64frombits: function 98 (no body) -/
def math_Float64frombits.ct (g : Int → Option Nat) : Ct where
  nin := 0
  mv := []
  F := fun tvs blks {β} K => match tvs, blks with
    | [.v (.one (.d (.int .u64) a0))], [] => (g a0).bind fun r => K ⟨.v (.one (.d .flt r)), []⟩
    | _, _ => none
  legit := fun _ _ K _ h => by split at h; exact (legit1 K h :); simp at h
def math_Float64frombits.f (k : Nat) (a0 : Int) : Option Nat := some (a0.toNat)
theorem math_Float64frombits.ok (k : Nat) : CtOK Go.Proofs.Tryz.prog 98 (math_Float64frombits.ct (math_Float64frombits.f k)) := by
  refine ct_extern ?_
  intro tvs blks res h
  simp only [math_Float64frombits.ct] at h
  split at h
  · simp only [math_Float64frombits.f, Option.bind_some, Option.some.injEq] at h; subst h
    rename_i a0
    refine ⟨.float .f64 a0.toNat, ?_, rfl, rfl⟩
    intro w S ρ H vals hm hv
    obtain ⟨v0, m0, rfl, h0, hv⟩ := All2.cons_left hv
    cases All2.nil_left hv
    simp only [RepTV, RepVV, RepAV, Rd, List.cons.injEq, and_true] at h0
    subst h0
    exact ⟨run_callFunc_extern (e := Extern.MathFloatBits.float64frombits) Go.Proofs.Tryz.func98 (by kernel_rfl) (by kernel_rfl) (by kernel_rfl) (by kernel_rfl) _ w, rfl⟩
  · simp at h

namespace reals_Canon
abbrev G : Type := Int → Option Int
def ct (g : G) : Ct where
  nin := 0
  mv := []
  F := fun tvs blks {β} K => match tvs, blks with
    | [.v (.one (.d (.int .u64) a0))], [] => (g a0).bind fun r => K ⟨.v (.one (.d (.int .u64) r)), []⟩
    | _, _ => none
  legit := fun _ _ K _ h => by split at h; exact (legit1 K h :); simp at h
noncomputable def env (g98 : Int → Option Nat)  : FEnv := { P := prog, ct := fun m => if m = 98 then some (math_Float64frombits.ct g98) else none, N := 10, body := f74.body.getD .skip, rvs := [.tmp 2], rts := [47], nin := 0, rmv := [], segs := [] }
def c {β : Type} (g98 : Int → Option Nat)  (a0 : Int) (ret : Int → Option β) : Option β := ((g98 a0).bind fun r0 => (bif ((Ieee.Format.order (FloatKind.format FloatKind.f64) r0 r0) != (Option.some Ordering.eq)) then (ret ((9221120237041090560 : Int))) else (ret (a0))))
theorem c_bind {β : Type} {g98 : Int → Option Nat}  {a0 : Int} {ret : Int → Option β} : c g98  a0 ret = (c g98  a0 some).bind ret := by
  simp only [c, bif_bind, sum_bind, oa, os, on, ofs]
theorem ev {g98 : Int → Option Nat}  {a0 : Int} : evAt (env g98 ) [] [0] [.v (.one (.d (.int .u64) a0))] [] some = c g98  a0 (fun r => some ⟨.v (.one (.d (.int .u64) r)), []⟩) := by
  kernel_rfl
def f (k : Nat) (a0 : Int) : Option Int := c (math_Float64frombits.f k)  a0 some
theorem is {g98 : Int → Option Nat}  : FnIs (env g98 ) 74 f74 := ⟨func74, rfl, rfl, rfl, by decide⟩
theorem envok {g98 : Int → Option Nat}  (h98 : CtOK prog 98 (math_Float64frombits.ct g98)) : EnvOK (env g98 ).toEnv := by
  intro f c h
  simp only [env] at h
  split at h
  · rename_i e; subst e; cases h; exact h98
  simp at h
noncomputable abbrev E (k : Nat) : FEnv := env (math_Float64frombits.f k) 
theorem hE (k : Nat) : EnvOK (E k).toEnv := envok (math_Float64frombits.ok k)
theorem ok (k : Nat) : CtOK prog 74 (ct (f k)) := by
  refine ct_of_ev (E := E k) is (hE k) (fun s hs => by simp [E, env] at hs) rfl ?_
  intro tvs blks res h
  simp only [ct] at h
  split at h
  · exact (ev.trans c_bind).trans h
  · simp at h
end reals_Canon
namespace utf_first
abbrev G : Type := Int → Option (Int × Int × Int × Int)
def ct (g : G) : Ct where
  nin := 0
  mv := []
  F := fun tvs blks {β} K => match tvs, blks with
    | [.v (.one (.d (.int .u8) a0))], [] => (g a0).bind fun r => K ⟨.tup [(.one (.d (.int .i64) r.1)), (.one (.d (.int .i64) r.2.1)), (.one (.d (.int .u8) r.2.2.1)), (.one (.d (.int .u8) r.2.2.2))], []⟩
    | _, _ => none
  legit := fun _ _ K _ h => by split at h; exact (legit1 K h :); simp at h
abbrev S0 : Type := Int → Bool → Option (Int × Int × Int × Int)
def sg0 (g : S0) : Seg where
  path := [1, 3, 1, 4, 0, 1]
  prep := []
  keep := [0, 11]
  F := fun tvs blks {β} K => match tvs, blks with
    | [.v (.one (.d (.int .u8) x0)), .v (.one (.d .bool x1))], [] => (g x0 x1).bind fun r => K ⟨.tup [(.one (.d (.int .i64) r.1)), (.one (.d (.int .i64) r.2.1)), (.one (.d (.int .u8) r.2.2.1)), (.one (.d (.int .u8) r.2.2.2))], []⟩
    | _, _ => none
  legit := fun _ _ K _ h => by split at h; exact (legit1 K h :); simp at h
noncomputable def env  (s0 : S0) : FEnv := { P := prog, ct := fun m => none, N := 48, body := f111.body.getD .skip, rvs := [.tmp 2, .tmp 3, .tmp 4, .tmp 5], rts := [3, 3, 5, 5], nin := 0, rmv := [], segs := [sg0 s0] }
def c {β : Type}  (s0 : S0) (a0 : Int) (ret : (Int × Int × Int × Int) → Option β) : Option β := (bif (decide (a0 < (128 : Int))) then (ret ((1 : Int), (IntKind.wrap IntKind.i64 a0), (0 : Int), (0 : Int))) else (bif (decide (a0 < (194 : Int))) then ((s0 a0 true).bind ret) else ((s0 a0 (decide (a0 > (244 : Int)))).bind ret)))
def s0c {β : Type}  (s0 : S0) (x0 : Int) (x1 : Bool) (ret : (Int × Int × Int × Int) → Option β) : Option β := (bif x1 then (ret ((0 : Int), (0 : Int), (0 : Int), (0 : Int))) else (bif (decide (x0 < (224 : Int))) then (ret ((2 : Int), (IntKind.wrap IntKind.i64 (IntKind.wrap IntKind.u8 ((BitVec.toNat ((BitVec.ofInt (8 : Nat) x0) &&& (BitVec.ofInt (8 : Nat) (31 : Int)))) : Int))), (128 : Int), (191 : Int))) else (bif (x0 == (224 : Int)) then (ret ((3 : Int), (0 : Int), (160 : Int), (191 : Int))) else (bif (x0 == (237 : Int)) then (ret ((3 : Int), (IntKind.wrap IntKind.i64 (IntKind.wrap IntKind.u8 ((BitVec.toNat ((BitVec.ofInt (8 : Nat) x0) &&& (BitVec.ofInt (8 : Nat) (15 : Int)))) : Int))), (128 : Int), (159 : Int))) else (bif (decide (x0 < (240 : Int))) then (ret ((3 : Int), (IntKind.wrap IntKind.i64 (IntKind.wrap IntKind.u8 ((BitVec.toNat ((BitVec.ofInt (8 : Nat) x0) &&& (BitVec.ofInt (8 : Nat) (15 : Int)))) : Int))), (128 : Int), (191 : Int))) else (bif (x0 == (240 : Int)) then (ret ((4 : Int), (0 : Int), (144 : Int), (191 : Int))) else (bif (x0 == (244 : Int)) then (ret ((4 : Int), (4 : Int), (128 : Int), (143 : Int))) else (ret ((4 : Int), (IntKind.wrap IntKind.i64 (IntKind.wrap IntKind.u8 ((BitVec.toNat ((BitVec.ofInt (8 : Nat) x0) &&& (BitVec.ofInt (8 : Nat) (7 : Int)))) : Int))), (128 : Int), (191 : Int))))))))))
theorem c_bind {β : Type}  {s0 : S0} {a0 : Int} {ret : (Int × Int × Int × Int) → Option β} : c  s0 a0 ret = (c  s0 a0 some).bind ret := by
  simp only [c, bif_bind, sum_bind, oa, os, on, ofs]
theorem s0c_bind {β : Type}  {s0 : S0} {x0 : Int} {x1 : Bool} {ret : (Int × Int × Int × Int) → Option β} : s0c  s0 x0 x1 ret = (s0c  s0 x0 x1 some).bind ret := by
  simp only [s0c, bif_bind, sum_bind, oa, os, on, ofs]
theorem ev  {s0 : S0} {a0 : Int} : evAt (env  s0) [] [0] [.v (.one (.d (.int .u8) a0))] [] some = c  s0 a0 (fun r => some ⟨.tup [(.one (.d (.int .i64) r.1)), (.one (.d (.int .i64) r.2.1)), (.one (.d (.int .u8) r.2.2.1)), (.one (.d (.int .u8) r.2.2.2))], []⟩) := by
  kernel_rfl
theorem s0_ev  {s0 : S0} {x0 : Int} {x1 : Bool} : evAt (env  s0) [1, 3, 1, 4, 0, 1] [0, 11] [.v (.one (.d (.int .u8) x0)), .v (.one (.d .bool x1))] [] some = s0c  s0 x0 x1 (fun r => some ⟨.tup [(.one (.d (.int .i64) r.1)), (.one (.d (.int .i64) r.2.1)), (.one (.d (.int .u8) r.2.2.1)), (.one (.d (.int .u8) r.2.2.2))], []⟩) := by
  kernel_rfl
def s0 : Nat → Int → Bool → Option (Int × Int × Int × Int)
  | 0, _, _ => none
  | k + 1, x0, x1 => s0c  (s0 k) x0 x1 some
def f (k : Nat) (a0 : Int) : Option (Int × Int × Int × Int) := c  (s0 k) a0 some
theorem is  {s0 : S0} : FnIs (env  s0) 111 f111 := ⟨func111, rfl, rfl, rfl, by decide⟩
theorem envok  {s0 : S0}  : EnvOK (env  s0).toEnv := by
  intro f c h
  simp only [env] at h
  simp at h
noncomputable abbrev E (k : Nat) : FEnv := env  (s0 k)
theorem hE (k : Nat) : EnvOK (E k).toEnv := envok 
theorem segs_ok : ∀ k, ∀ s ∈ (E k).segs, SegOK (E k) f111 s
  | 0 => by
    intro s hs
    simp only [E, env, List.mem_cons, List.not_mem_nil, or_false] at hs
    rcases hs with rfl
    · intro tvs blks res h; exfalso; simp only [sg0] at h; split at h <;> simp [s0] at h
  | k + 1 => by
    intro s hs
    simp only [E, env, List.mem_cons, List.not_mem_nil, or_false] at hs
    rcases hs with rfl
    · refine seg_of_ev (E := E k) (hE k) ⟨is.rvs⟩ (segs_ok k) ?_
      intro tvs blks res h
      simp only [sg0] at h
      split at h
      · exact (s0_ev.trans s0c_bind).trans h
      · simp at h
theorem ok (k : Nat) : CtOK prog 111 (ct (f k)) := by
  refine ct_of_ev (E := E k) is (hE k) (segs_ok k) rfl ?_
  intro tvs blks res h
  simp only [ct] at h
  split at h
  · exact (ev.trans c_bind).trans h
  · simp at h
end utf_first
namespace utf_Next
abbrev G : Type := ByteArray → Option (Int × Int × Int)
def ct (g : G) : Ct where
  nin := 0
  mv := []
  F := fun tvs blks {β} K => match tvs, blks with
    | [.v (.one (.d .str a0))], [] => (g a0).bind fun r => K ⟨.tup [(.one (.d (.int .i64) r.1)), (.one (.d (.int .i64) r.2.1)), (.one (.d (.int .i64) r.2.2))], []⟩
    | _, _ => none
  legit := fun _ _ K _ h => by split at h; exact (legit1 K h :); simp at h
abbrev S0 : Type := ByteArray → Int → Int → Int → Int → Int → Int → Option (Int × Int × Int)
abbrev S1 : Type := ByteArray → Int → Int → Int → Int → Bool → Option (Int × Int × Int)
abbrev S2 : Type := ByteArray → Int → Int → Int → Int → Option (Int × Int × Int)
abbrev S3 : Type := ByteArray → Int → Int → Int → Int → Int → Int → Option (Int × Int × Int)
def sg0 (g : S0) : Seg where
  path := [4, 1, 0, 1, 1, 1, 1, 1, 6, 1]
  prep := []
  keep := [0, 5, 6, 7, 8, 9, 10]
  F := fun tvs blks {β} K => match tvs, blks with
    | [.v (.one (.d .str x0)), .v (.one (.d (.int .i64) x1)), .v (.one (.d (.int .i64) x2)), .v (.one (.d (.int .u8) x3)), .v (.one (.d (.int .u8) x4)), .v (.one (.d (.int .i64) x5)), .v (.one (.d (.int .i64) x6))], [] => (g x0 x1 x2 x3 x4 x5 x6).bind fun r => K ⟨.tup [(.one (.d (.int .i64) r.1)), (.one (.d (.int .i64) r.2.1)), (.one (.d (.int .i64) r.2.2))], []⟩
    | _, _ => none
  legit := fun _ _ K _ h => by split at h; exact (legit1 K h :); simp at h
def sg1 (g : S1) : Seg where
  path := [1, 3, 1, 4, 0, 4, 0, 1, 5, 4, 1, 0, 1, 1, 1, 1, 1, 6, 1]
  prep := []
  keep := [0, 5, 6, 9, 10, 33]
  F := fun tvs blks {β} K => match tvs, blks with
    | [.v (.one (.d .str x0)), .v (.one (.d (.int .i64) x1)), .v (.one (.d (.int .i64) x2)), .v (.one (.d (.int .i64) x3)), .v (.one (.d (.int .i64) x4)), .v (.one (.d .bool x5))], [] => (g x0 x1 x2 x3 x4 x5).bind fun r => K ⟨.tup [(.one (.d (.int .i64) r.1)), (.one (.d (.int .i64) r.2.1)), (.one (.d (.int .i64) r.2.2))], []⟩
    | _, _ => none
  legit := fun _ _ K _ h => by split at h; exact (legit1 K h :); simp at h
def sg2 (g : S2) : Seg where
  path := [1, 4, 0, 1, 5, 4, 1, 0, 1, 1, 1, 1, 1, 6, 1]
  prep := []
  keep := [0, 5, 6, 9, 10]
  F := fun tvs blks {β} K => match tvs, blks with
    | [.v (.one (.d .str x0)), .v (.one (.d (.int .i64) x1)), .v (.one (.d (.int .i64) x2)), .v (.one (.d (.int .i64) x3)), .v (.one (.d (.int .i64) x4))], [] => (g x0 x1 x2 x3 x4).bind fun r => K ⟨.tup [(.one (.d (.int .i64) r.1)), (.one (.d (.int .i64) r.2.1)), (.one (.d (.int .i64) r.2.2))], []⟩
    | _, _ => none
  legit := fun _ _ K _ h => by split at h; exact (legit1 K h :); simp at h
def sg3 (g : S3) : Seg where
  path := [1, 1, 5, 4, 1, 0, 1, 1, 1, 1, 1, 6, 1]
  prep := []
  keep := [0, 5, 6, 7, 8, 9, 10]
  F := fun tvs blks {β} K => match tvs, blks with
    | [.v (.one (.d .str x0)), .v (.one (.d (.int .i64) x1)), .v (.one (.d (.int .i64) x2)), .v (.one (.d (.int .u8) x3)), .v (.one (.d (.int .u8) x4)), .v (.one (.d (.int .i64) x5)), .v (.one (.d (.int .i64) x6))], [] => (g x0 x1 x2 x3 x4 x5 x6).bind fun r => K ⟨.tup [(.one (.d (.int .i64) r.1)), (.one (.d (.int .i64) r.2.1)), (.one (.d (.int .i64) r.2.2))], []⟩
    | _, _ => none
  legit := fun _ _ K _ h => by split at h; exact (legit1 K h :); simp at h
noncomputable def env (g111 : utf_first.G) (s0 : S0) (s1 : S1) (s2 : S2) (s3 : S3) : FEnv := { P := prog, ct := fun m => if m = 111 then some (utf_first.ct g111) else none, N := 59, body := f107.body.getD .skip, rvs := [.tmp 2, .tmp 3, .tmp 4], rts := [3, 3, 29], nin := 0, rmv := [], segs := [sg0 s0, sg1 s1, sg2 s2, sg3 s3] }
def c {β : Type} (g111 : utf_first.G) (s0 : S0) (s1 : S1) (s2 : S2) (s3 : S3) (a0 : ByteArray) (ret : (Int × Int × Int) → Option β) : Option β := (bif ((ByteArray.toList a0) == (ByteArray.toList (ByteArray.mk (List.toArray [])))) then (ret ((0 : Int), (0 : Int), (3 : Int))) else (bif (true && (decide ((0 : Int) < ((ByteArray.size a0) : Int)))) then ((g111 (bt a0 (0 : Int))).bind fun r0 => (bif (r0.1 == (0 : Int)) then (ret ((0 : Int), (0 : Int), (7 : Int))) else ((s0 a0 r0.1 r0.2.1 r0.2.2.1 r0.2.2.2 (0 : Int) (1 : Int)).bind ret))) else none))
def s0c {β : Type} (g111 : utf_first.G) (s0 : S0) (s1 : S1) (s2 : S2) (s3 : S3) (x0 : ByteArray) (x1 : Int) (x2 : Int) (x3 : Int) (x4 : Int) (x5 : Int) (x6 : Int) (ret : (Int × Int × Int) → Option β) : Option β := (bif (decide (x6 < x1)) then (bif (decide (x6 ≥ ((ByteArray.size x0) : Int))) then (ret ((0 : Int), (0 : Int), (3 : Int))) else (bif ((decide ((0 : Int) ≤ x6)) && (decide (x6 < ((ByteArray.size x0) : Int)))) then (bif (decide ((bt x0 x6) < x3)) then ((s1 x0 x1 x2 x5 x6 true).bind ret) else (bif ((decide ((0 : Int) ≤ x6)) && (decide (x6 < ((ByteArray.size x0) : Int)))) then ((s1 x0 x1 x2 x5 x6 (decide ((bt x0 x6) > x4))).bind ret) else none)) else none)) else (bif (x5 != (0 : Int)) then (ret ((0 : Int), (0 : Int), x5)) else (ret (x2, x1, (0 : Int)))))
def s1c {β : Type} (g111 : utf_first.G) (s0 : S0) (s1 : S1) (s2 : S2) (s3 : S3) (x0 : ByteArray) (x1 : Int) (x2 : Int) (x3 : Int) (x4 : Int) (x5 : Bool) (ret : (Int × Int × Int) → Option β) : Option β := (bif x5 then (ret ((0 : Int), (0 : Int), (7 : Int))) else ((s2 x0 x1 x2 x3 x4).bind ret))
def s2c {β : Type} (g111 : utf_first.G) (s0 : S0) (s1 : S1) (s2 : S2) (s3 : S3) (x0 : ByteArray) (x1 : Int) (x2 : Int) (x3 : Int) (x4 : Int) (ret : (Int × Int × Int) → Option β) : Option β := (bif ((decide ((0 : Int) ≤ x4)) && (decide (x4 < ((ByteArray.size x0) : Int)))) then ((s3 x0 x1 (IntKind.wrap IntKind.i64 ((BitVec.toNat ((BitVec.ofInt (64 : Nat) (IntKind.wrap IntKind.i64 (x2 * (64 : Int)))) ||| (BitVec.ofInt (64 : Nat) (IntKind.wrap IntKind.i64 (IntKind.wrap IntKind.u8 ((BitVec.toNat ((BitVec.ofInt (8 : Nat) (bt x0 x4)) &&& (BitVec.ofInt (8 : Nat) (63 : Int)))) : Int)))))) : Int)) (128 : Int) (191 : Int) x3 x4).bind ret) else none)
def s3c {β : Type} (g111 : utf_first.G) (s0 : S0) (s1 : S1) (s2 : S2) (s3 : S3) (x0 : ByteArray) (x1 : Int) (x2 : Int) (x3 : Int) (x4 : Int) (x5 : Int) (x6 : Int) (ret : (Int × Int × Int) → Option β) : Option β := ((s0 x0 x1 x2 x3 x4 x5 (IntKind.wrap IntKind.i64 (x6 + (1 : Int)))).bind ret)
theorem c_bind {β : Type} {g111 : utf_first.G} {s0 : S0} {s1 : S1} {s2 : S2} {s3 : S3} {a0 : ByteArray} {ret : (Int × Int × Int) → Option β} : c g111 s0 s1 s2 s3 a0 ret = (c g111 s0 s1 s2 s3 a0 some).bind ret := by
  simp only [c, bif_bind, sum_bind, oa, os, on, ofs]
theorem s0c_bind {β : Type} {g111 : utf_first.G} {s0 : S0} {s1 : S1} {s2 : S2} {s3 : S3} {x0 : ByteArray} {x1 : Int} {x2 : Int} {x3 : Int} {x4 : Int} {x5 : Int} {x6 : Int} {ret : (Int × Int × Int) → Option β} : s0c g111 s0 s1 s2 s3 x0 x1 x2 x3 x4 x5 x6 ret = (s0c g111 s0 s1 s2 s3 x0 x1 x2 x3 x4 x5 x6 some).bind ret := by
  simp only [s0c, bif_bind, sum_bind, oa, os, on, ofs]
theorem s1c_bind {β : Type} {g111 : utf_first.G} {s0 : S0} {s1 : S1} {s2 : S2} {s3 : S3} {x0 : ByteArray} {x1 : Int} {x2 : Int} {x3 : Int} {x4 : Int} {x5 : Bool} {ret : (Int × Int × Int) → Option β} : s1c g111 s0 s1 s2 s3 x0 x1 x2 x3 x4 x5 ret = (s1c g111 s0 s1 s2 s3 x0 x1 x2 x3 x4 x5 some).bind ret := by
  simp only [s1c, bif_bind, sum_bind, oa, os, on, ofs]
theorem s2c_bind {β : Type} {g111 : utf_first.G} {s0 : S0} {s1 : S1} {s2 : S2} {s3 : S3} {x0 : ByteArray} {x1 : Int} {x2 : Int} {x3 : Int} {x4 : Int} {ret : (Int × Int × Int) → Option β} : s2c g111 s0 s1 s2 s3 x0 x1 x2 x3 x4 ret = (s2c g111 s0 s1 s2 s3 x0 x1 x2 x3 x4 some).bind ret := by
  simp only [s2c, bif_bind, sum_bind, oa, os, on, ofs]
theorem s3c_bind {β : Type} {g111 : utf_first.G} {s0 : S0} {s1 : S1} {s2 : S2} {s3 : S3} {x0 : ByteArray} {x1 : Int} {x2 : Int} {x3 : Int} {x4 : Int} {x5 : Int} {x6 : Int} {ret : (Int × Int × Int) → Option β} : s3c g111 s0 s1 s2 s3 x0 x1 x2 x3 x4 x5 x6 ret = (s3c g111 s0 s1 s2 s3 x0 x1 x2 x3 x4 x5 x6 some).bind ret := by
  simp only [s3c, bif_bind, sum_bind, oa, os, on, ofs]
theorem ev {g111 : utf_first.G} {s0 : S0} {s1 : S1} {s2 : S2} {s3 : S3} {a0 : ByteArray} : evAt (env g111 s0 s1 s2 s3) [] [0] [.v (.one (.d .str a0))] [] some = c g111 s0 s1 s2 s3 a0 (fun r => some ⟨.tup [(.one (.d (.int .i64) r.1)), (.one (.d (.int .i64) r.2.1)), (.one (.d (.int .i64) r.2.2))], []⟩) := by
  kernel_rfl
theorem s0_ev {g111 : utf_first.G} {s0 : S0} {s1 : S1} {s2 : S2} {s3 : S3} {x0 : ByteArray} {x1 : Int} {x2 : Int} {x3 : Int} {x4 : Int} {x5 : Int} {x6 : Int} : evAt (env g111 s0 s1 s2 s3) [4, 1, 0, 1, 1, 1, 1, 1, 6, 1] [0, 5, 6, 7, 8, 9, 10] [.v (.one (.d .str x0)), .v (.one (.d (.int .i64) x1)), .v (.one (.d (.int .i64) x2)), .v (.one (.d (.int .u8) x3)), .v (.one (.d (.int .u8) x4)), .v (.one (.d (.int .i64) x5)), .v (.one (.d (.int .i64) x6))] [] some = s0c g111 s0 s1 s2 s3 x0 x1 x2 x3 x4 x5 x6 (fun r => some ⟨.tup [(.one (.d (.int .i64) r.1)), (.one (.d (.int .i64) r.2.1)), (.one (.d (.int .i64) r.2.2))], []⟩) := by
  kernel_rfl
theorem s1_ev {g111 : utf_first.G} {s0 : S0} {s1 : S1} {s2 : S2} {s3 : S3} {x0 : ByteArray} {x1 : Int} {x2 : Int} {x3 : Int} {x4 : Int} {x5 : Bool} : evAt (env g111 s0 s1 s2 s3) [1, 3, 1, 4, 0, 4, 0, 1, 5, 4, 1, 0, 1, 1, 1, 1, 1, 6, 1] [0, 5, 6, 9, 10, 33] [.v (.one (.d .str x0)), .v (.one (.d (.int .i64) x1)), .v (.one (.d (.int .i64) x2)), .v (.one (.d (.int .i64) x3)), .v (.one (.d (.int .i64) x4)), .v (.one (.d .bool x5))] [] some = s1c g111 s0 s1 s2 s3 x0 x1 x2 x3 x4 x5 (fun r => some ⟨.tup [(.one (.d (.int .i64) r.1)), (.one (.d (.int .i64) r.2.1)), (.one (.d (.int .i64) r.2.2))], []⟩) := by
  kernel_rfl
theorem s2_ev {g111 : utf_first.G} {s0 : S0} {s1 : S1} {s2 : S2} {s3 : S3} {x0 : ByteArray} {x1 : Int} {x2 : Int} {x3 : Int} {x4 : Int} : evAt (env g111 s0 s1 s2 s3) [1, 4, 0, 1, 5, 4, 1, 0, 1, 1, 1, 1, 1, 6, 1] [0, 5, 6, 9, 10] [.v (.one (.d .str x0)), .v (.one (.d (.int .i64) x1)), .v (.one (.d (.int .i64) x2)), .v (.one (.d (.int .i64) x3)), .v (.one (.d (.int .i64) x4))] [] some = s2c g111 s0 s1 s2 s3 x0 x1 x2 x3 x4 (fun r => some ⟨.tup [(.one (.d (.int .i64) r.1)), (.one (.d (.int .i64) r.2.1)), (.one (.d (.int .i64) r.2.2))], []⟩) := by
  kernel_rfl
theorem s3_ev {g111 : utf_first.G} {s0 : S0} {s1 : S1} {s2 : S2} {s3 : S3} {x0 : ByteArray} {x1 : Int} {x2 : Int} {x3 : Int} {x4 : Int} {x5 : Int} {x6 : Int} : evAt (env g111 s0 s1 s2 s3) [1, 1, 5, 4, 1, 0, 1, 1, 1, 1, 1, 6, 1] [0, 5, 6, 7, 8, 9, 10] [.v (.one (.d .str x0)), .v (.one (.d (.int .i64) x1)), .v (.one (.d (.int .i64) x2)), .v (.one (.d (.int .u8) x3)), .v (.one (.d (.int .u8) x4)), .v (.one (.d (.int .i64) x5)), .v (.one (.d (.int .i64) x6))] [] some = s3c g111 s0 s1 s2 s3 x0 x1 x2 x3 x4 x5 x6 (fun r => some ⟨.tup [(.one (.d (.int .i64) r.1)), (.one (.d (.int .i64) r.2.1)), (.one (.d (.int .i64) r.2.2))], []⟩) := by
  kernel_rfl
mutual
def s0 : Nat → ByteArray → Int → Int → Int → Int → Int → Int → Option (Int × Int × Int)
  | 0, _, _, _, _, _, _, _ => none
  | k + 1, x0, x1, x2, x3, x4, x5, x6 => s0c (utf_first.f k) (s0 k) (s1 k) (s2 k) (s3 k) x0 x1 x2 x3 x4 x5 x6 some
def s1 : Nat → ByteArray → Int → Int → Int → Int → Bool → Option (Int × Int × Int)
  | 0, _, _, _, _, _, _ => none
  | k + 1, x0, x1, x2, x3, x4, x5 => s1c (utf_first.f k) (s0 k) (s1 k) (s2 k) (s3 k) x0 x1 x2 x3 x4 x5 some
def s2 : Nat → ByteArray → Int → Int → Int → Int → Option (Int × Int × Int)
  | 0, _, _, _, _, _ => none
  | k + 1, x0, x1, x2, x3, x4 => s2c (utf_first.f k) (s0 k) (s1 k) (s2 k) (s3 k) x0 x1 x2 x3 x4 some
def s3 : Nat → ByteArray → Int → Int → Int → Int → Int → Int → Option (Int × Int × Int)
  | 0, _, _, _, _, _, _, _ => none
  | k + 1, x0, x1, x2, x3, x4, x5, x6 => s3c (utf_first.f k) (s0 k) (s1 k) (s2 k) (s3 k) x0 x1 x2 x3 x4 x5 x6 some
end
def f (k : Nat) (a0 : ByteArray) : Option (Int × Int × Int) := c (utf_first.f k) (s0 k) (s1 k) (s2 k) (s3 k) a0 some
theorem is {g111 : utf_first.G} {s0 : S0} {s1 : S1} {s2 : S2} {s3 : S3} : FnIs (env g111 s0 s1 s2 s3) 107 f107 := ⟨func107, rfl, rfl, rfl, by decide⟩
theorem envok {g111 : utf_first.G} {s0 : S0} {s1 : S1} {s2 : S2} {s3 : S3} (h111 : CtOK prog 111 (utf_first.ct g111)) : EnvOK (env g111 s0 s1 s2 s3).toEnv := by
  intro f c h
  simp only [env] at h
  split at h
  · rename_i e; subst e; cases h; exact h111
  simp at h
noncomputable abbrev E (k : Nat) : FEnv := env (utf_first.f k) (s0 k) (s1 k) (s2 k) (s3 k)
theorem hE (k : Nat) : EnvOK (E k).toEnv := envok (utf_first.ok k)
theorem segs_ok : ∀ k, ∀ s ∈ (E k).segs, SegOK (E k) f107 s
  | 0 => by
    intro s hs
    simp only [E, env, List.mem_cons, List.not_mem_nil, or_false] at hs
    rcases hs with rfl | rfl | rfl | rfl
    · intro tvs blks res h; exfalso; simp only [sg0] at h; split at h <;> simp [s0] at h
    · intro tvs blks res h; exfalso; simp only [sg1] at h; split at h <;> simp [s1] at h
    · intro tvs blks res h; exfalso; simp only [sg2] at h; split at h <;> simp [s2] at h
    · intro tvs blks res h; exfalso; simp only [sg3] at h; split at h <;> simp [s3] at h
  | k + 1 => by
    intro s hs
    simp only [E, env, List.mem_cons, List.not_mem_nil, or_false] at hs
    rcases hs with rfl | rfl | rfl | rfl
    · refine seg_of_ev (E := E k) (hE k) ⟨is.rvs⟩ (segs_ok k) ?_
      intro tvs blks res h
      simp only [sg0] at h
      split at h
      · exact (s0_ev.trans s0c_bind).trans h
      · simp at h
    · refine seg_of_ev (E := E k) (hE k) ⟨is.rvs⟩ (segs_ok k) ?_
      intro tvs blks res h
      simp only [sg1] at h
      split at h
      · exact (s1_ev.trans s1c_bind).trans h
      · simp at h
    · refine seg_of_ev (E := E k) (hE k) ⟨is.rvs⟩ (segs_ok k) ?_
      intro tvs blks res h
      simp only [sg2] at h
      split at h
      · exact (s2_ev.trans s2c_bind).trans h
      · simp at h
    · refine seg_of_ev (E := E k) (hE k) ⟨is.rvs⟩ (segs_ok k) ?_
      intro tvs blks res h
      simp only [sg3] at h
      split at h
      · exact (s3_ev.trans s3c_bind).trans h
      · simp at h
theorem ok (k : Nat) : CtOK prog 107 (ct (f k)) := by
  refine ct_of_ev (E := E k) is (hE k) (segs_ok k) rfl ?_
  intro tvs blks res h
  simp only [ct] at h
  split at h
  · exact (ev.trans c_bind).trans h
  · simp at h
end utf_Next
namespace utf_Count
abbrev G : Type := ByteArray → Option Int
def ct (g : G) : Ct where
  nin := 0
  mv := []
  F := fun tvs blks {β} K => match tvs, blks with
    | [.v (.one (.d .str a0))], [] => (g a0).bind fun r => K ⟨.v (.one (.d (.int .i64) r)), []⟩
    | _, _ => none
  legit := fun _ _ K _ h => by split at h; exact (legit1 K h :); simp at h
abbrev S0 : Type := ByteArray → Int → Option Int
def sg0 (g : S0) : Seg where
  path := [4, 0, 1, 1]
  prep := []
  keep := [0, 3]
  F := fun tvs blks {β} K => match tvs, blks with
    | [.v (.one (.d .str x0)), .v (.one (.d (.int .i64) x1))], [] => (g x0 x1).bind fun r => K ⟨.v (.one (.d (.int .i64) r)), []⟩
    | _, _ => none
  legit := fun _ _ K _ h => by split at h; exact (legit1 K h :); simp at h
noncomputable def env (g107 : utf_Next.G) (s0 : S0) : FEnv := { P := prog, ct := fun m => if m = 107 then some (utf_Next.ct g107) else none, N := 23, body := f99.body.getD .skip, rvs := [.tmp 2], rts := [3], nin := 0, rmv := [], segs := [sg0 s0] }
def c {β : Type} (g107 : utf_Next.G) (s0 : S0) (a0 : ByteArray) (ret : Int → Option β) : Option β := ((s0 a0 (0 : Int)).bind ret)
def s0c {β : Type} (g107 : utf_Next.G) (s0 : S0) (x0 : ByteArray) (x1 : Int) (ret : Int → Option β) : Option β := (bif (!((ByteArray.toList x0) == (ByteArray.toList (ByteArray.mk (List.toArray []))))) then ((g107 x0).bind fun r0 => (bif (r0.2.2 != (0 : Int)) then (ret ((-1 : Int))) else (bif (((decide ((0 : Int) ≤ r0.2.1)) && (decide (r0.2.1 ≤ ((ByteArray.size x0) : Int)))) && (decide (((ByteArray.size x0) : Int) ≤ ((ByteArray.size x0) : Int)))) then ((s0 (ByteArray.extract x0 (Int.toNat r0.2.1) (Int.toNat ((ByteArray.size x0) : Int))) (IntKind.wrap IntKind.i64 (x1 + (1 : Int)))).bind ret) else none))) else (ret (x1)))
theorem c_bind {β : Type} {g107 : utf_Next.G} {s0 : S0} {a0 : ByteArray} {ret : Int → Option β} : c g107 s0 a0 ret = (c g107 s0 a0 some).bind ret := by
  simp only [c, bif_bind, sum_bind, oa, os, on, ofs]
theorem s0c_bind {β : Type} {g107 : utf_Next.G} {s0 : S0} {x0 : ByteArray} {x1 : Int} {ret : Int → Option β} : s0c g107 s0 x0 x1 ret = (s0c g107 s0 x0 x1 some).bind ret := by
  simp only [s0c, bif_bind, sum_bind, oa, os, on, ofs]
theorem ev {g107 : utf_Next.G} {s0 : S0} {a0 : ByteArray} : evAt (env g107 s0) [] [0] [.v (.one (.d .str a0))] [] some = c g107 s0 a0 (fun r => some ⟨.v (.one (.d (.int .i64) r)), []⟩) := by
  kernel_rfl
theorem s0_ev {g107 : utf_Next.G} {s0 : S0} {x0 : ByteArray} {x1 : Int} : evAt (env g107 s0) [4, 0, 1, 1] [0, 3] [.v (.one (.d .str x0)), .v (.one (.d (.int .i64) x1))] [] some = s0c g107 s0 x0 x1 (fun r => some ⟨.v (.one (.d (.int .i64) r)), []⟩) := by
  kernel_rfl
def s0 : Nat → ByteArray → Int → Option Int
  | 0, _, _ => none
  | k + 1, x0, x1 => s0c (utf_Next.f k) (s0 k) x0 x1 some
def f (k : Nat) (a0 : ByteArray) : Option Int := c (utf_Next.f k) (s0 k) a0 some
theorem is {g107 : utf_Next.G} {s0 : S0} : FnIs (env g107 s0) 99 f99 := ⟨func99, rfl, rfl, rfl, by decide⟩
theorem envok {g107 : utf_Next.G} {s0 : S0} (h107 : CtOK prog 107 (utf_Next.ct g107)) : EnvOK (env g107 s0).toEnv := by
  intro f c h
  simp only [env] at h
  split at h
  · rename_i e; subst e; cases h; exact h107
  simp at h
noncomputable abbrev E (k : Nat) : FEnv := env (utf_Next.f k) (s0 k)
theorem hE (k : Nat) : EnvOK (E k).toEnv := envok (utf_Next.ok k)
theorem segs_ok : ∀ k, ∀ s ∈ (E k).segs, SegOK (E k) f99 s
  | 0 => by
    intro s hs
    simp only [E, env, List.mem_cons, List.not_mem_nil, or_false] at hs
    rcases hs with rfl
    · intro tvs blks res h; exfalso; simp only [sg0] at h; split at h <;> simp [s0] at h
  | k + 1 => by
    intro s hs
    simp only [E, env, List.mem_cons, List.not_mem_nil, or_false] at hs
    rcases hs with rfl
    · refine seg_of_ev (E := E k) (hE k) ⟨is.rvs⟩ (segs_ok k) ?_
      intro tvs blks res h
      simp only [sg0] at h
      split at h
      · exact (s0_ev.trans s0c_bind).trans h
      · simp at h
theorem ok (k : Nat) : CtOK prog 99 (ct (f k)) := by
  refine ct_of_ev (E := E k) is (hE k) (segs_ok k) rfl ?_
  intro tvs blks res h
  simp only [ct] at h
  split at h
  · exact (ev.trans c_bind).trans h
  · simp at h
end utf_Count
namespace utf_Valid
abbrev G : Type := ByteArray → Option Bool
def ct (g : G) : Ct where
  nin := 0
  mv := []
  F := fun tvs blks {β} K => match tvs, blks with
    | [.v (.one (.d .str a0))], [] => (g a0).bind fun r => K ⟨.v (.one (.d .bool r)), []⟩
    | _, _ => none
  legit := fun _ _ K _ h => by split at h; exact (legit1 K h :); simp at h
noncomputable def env (g99 : utf_Count.G)  : FEnv := { P := prog, ct := fun m => if m = 99 then some (utf_Count.ct g99) else none, N := 6, body := f75.body.getD .skip, rvs := [.tmp 2], rts := [4], nin := 0, rmv := [], segs := [] }
def c {β : Type} (g99 : utf_Count.G)  (a0 : ByteArray) (ret : Bool → Option β) : Option β := ((g99 a0).bind fun r0 => (ret ((decide (r0 ≥ (0 : Int))))))
theorem c_bind {β : Type} {g99 : utf_Count.G}  {a0 : ByteArray} {ret : Bool → Option β} : c g99  a0 ret = (c g99  a0 some).bind ret := by
  simp only [c, bif_bind, sum_bind, oa, os, on, ofs]
theorem ev {g99 : utf_Count.G}  {a0 : ByteArray} : evAt (env g99 ) [] [0] [.v (.one (.d .str a0))] [] some = c g99  a0 (fun r => some ⟨.v (.one (.d .bool r)), []⟩) := by
  kernel_rfl
def f (k : Nat) (a0 : ByteArray) : Option Bool := c (utf_Count.f k)  a0 some
theorem is {g99 : utf_Count.G}  : FnIs (env g99 ) 75 f75 := ⟨func75, rfl, rfl, rfl, by decide⟩
theorem envok {g99 : utf_Count.G}  (h99 : CtOK prog 99 (utf_Count.ct g99)) : EnvOK (env g99 ).toEnv := by
  intro f c h
  simp only [env] at h
  split at h
  · rename_i e; subst e; cases h; exact h99
  simp at h
noncomputable abbrev E (k : Nat) : FEnv := env (utf_Count.f k) 
theorem hE (k : Nat) : EnvOK (E k).toEnv := envok (utf_Count.ok k)
theorem ok (k : Nat) : CtOK prog 75 (ct (f k)) := by
  refine ct_of_ev (E := E k) is (hE k) (fun s hs => by simp [E, env] at hs) rfl ?_
  intro tvs blks res h
  simp only [ct] at h
  split at h
  · exact (ev.trans c_bind).trans h
  · simp at h
end utf_Valid
end Go.Proofs.YtddlebbjaadbeaaGreatDoor.Aev
