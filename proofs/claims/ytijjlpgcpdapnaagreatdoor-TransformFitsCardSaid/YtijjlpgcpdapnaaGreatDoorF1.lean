import Derived.Test.YtijjlpgcpdapnaaGreatDoorTys
import Derived.Test.YtijjlpgcpdapnaaGreatDoorProg
import Derived.Laws.Externs
import Derived.Lib.Bytealg
/- By a program of this session (AEV): functions of the program as plain functions, and that the machine does what they say. -/
namespace Go.Proofs.YtijjlpgcpdapnaaGreatDoor.Aev
set_option linter.unusedVariables false
set_option linter.unusedSimpArgs false
set_option maxRecDepth 100000
set_option maxHeartbeats 4000000
open Go Go.Proofs.Tryz
namespace names_Check
def e (r : Int) : Res := ⟨.v (.one (.d (.int .i64) r)), []⟩
abbrev T (δ : Type) : Type := ByteArray → Option δ
abbrev A {δ : Type} (g : T δ) : Arm δ := ⟨[.d .str], [], fun x y => g x.1⟩
abbrev G : Type := T Int
def ct (g : G) : Ct := mkCt 0 [] [A g] e
abbrev S0 (δ : Type) : Type := ByteArray → Bool → Option δ
abbrev A_0 {δ : Type} (s : S0 δ) : Arm δ := ⟨[.d .str, .d .bool], [], fun x y => s x.1 x.2.1⟩
abbrev S1 (δ : Type) : Type := ByteArray → Option δ
abbrev A_1 {δ : Type} (s : S1 δ) : Arm δ := ⟨[.d .str], [], fun x y => s x.1⟩
abbrev S2 (δ : Type) : Type := (List Int) → Int → Int → Option δ
abbrev A_2 {δ : Type} (s : S2 δ) : Arm δ := ⟨[.d (.sl (.int .u8)), .d (.int .i64), .d (.int .i64)], [], fun x y => s x.1 x.2.1 x.2.2.1⟩
abbrev S3 (δ : Type) : Type := Int → Int → Bool → (List Int) → Int → Int → Option δ
abbrev A_3 {δ : Type} (s : S3 δ) : Arm δ := ⟨[.d (.int .i64), .d (.int .u8), .d .bool, .d (.sl (.int .u8)), .d (.int .i64), .d (.int .i64)], [], fun x y => s x.1 x.2.1 x.2.2.1 x.2.2.2.1 x.2.2.2.2.1 x.2.2.2.2.2.1⟩
abbrev S4 (δ : Type) : Type := Int → Bool → Bool → (List Int) → Int → Int → Option δ
abbrev A_4 {δ : Type} (s : S4 δ) : Arm δ := ⟨[.d (.int .i64), .d .bool, .d .bool, .d (.sl (.int .u8)), .d (.int .i64), .d (.int .i64)], [], fun x y => s x.1 x.2.1 x.2.2.1 x.2.2.2.1 x.2.2.2.2.1 x.2.2.2.2.2.1⟩
abbrev S5 (δ : Type) : Type := (List Int) → Int → Int → Bool → Option δ
abbrev A_5 {δ : Type} (s : S5 δ) : Arm δ := ⟨[.d (.sl (.int .u8)), .d (.int .i64), .d (.int .i64), .d .bool], [], fun x y => s x.1 x.2.1 x.2.2.1 x.2.2.2.1⟩
abbrev S6 (δ : Type) : Type := (List Int) → Int → Int → Option δ
abbrev A_6 {δ : Type} (s : S6 δ) : Arm δ := ⟨[.d (.sl (.int .u8)), .d (.int .i64), .d (.int .i64)], [], fun x y => s x.1 x.2.1 x.2.2.1⟩
def sg0 (s : S0 Int) : Seg := mkSg [1, 0, 1] [] [0, 13] [A_0 s] e
def sg1 (s : S1 Int) : Seg := mkSg [1, 1] [] [0] [A_1 s] e
def sg2 (s : S2 Int) : Seg := mkSg [4, 1, 0, 1, 1] [] [15, 16, 17] [A_2 s] e
def sg3 (s : S3 Int) : Seg := mkSg [1, 1, 4, 0, 1, 1, 5, 4, 1, 0, 1, 1] [] [3, 4, 5, 15, 16, 17] [A_3 s] e
def sg4 (s : S4 Int) : Seg := mkSg [1, 1, 1, 4, 0, 1, 1, 5, 4, 1, 0, 1, 1] [] [3, 5, 6, 15, 16, 17] [A_4 s] e
def sg5 (s : S5 Int) : Seg := mkSg [1, 1, 1, 1, 4, 0, 1, 1, 5, 4, 1, 0, 1, 1] [] [15, 16, 17, 47] [A_5 s] e
def sg6 (s : S6 Int) : Seg := mkSg [1, 1, 1, 5, 4, 1, 0, 1, 1] [] [15, 16, 17] [A_6 s] e
section
variable {β : Type} (s0 : S0 Int) (s1 : S1 Int) (s2 : S2 Int) (s3 : S3 Int) (s4 : S4 Int) (s5 : S5 Int) (s6 : S6 Int)
noncomputable abbrev env : FEnv := mkEnv prog f98 [] 0 [] [sg0 s0, sg1 s1, sg2 s2, sg3 s3, sg4 s4, sg5 s5, sg6 s6]
def c (ret : Int → Option β) (a0 : ByteArray) : Option β := (bif (a0.toList == (ByteArray.toList (ByteArray.mk (List.toArray [])))) then ((s0 a0 true).bind ret) else ((s0 a0 (decide ((a0.size : Int) > (16 : Int)))).bind ret))
def s0c (ret : Int → Option β) (x0 : ByteArray) (x1 : Bool) : Option β := (bif x1 then (ret ((8 : Int))) else ((s1 x0).bind ret))
def s1c (ret : Int → Option β) (x0 : ByteArray) : Option β := ((s2 (List.map (fun b => ((UInt8.toNat b) : Int)) (Array.toList (ByteArray.data x0))) ((List.length (List.map (fun b => ((UInt8.toNat b) : Int)) (Array.toList (ByteArray.data x0)))) : Int) (0 : Int)).bind ret)
def s2c (ret : Int → Option β) (x0 : List Int) (x1 x2 : Int) : Option β := (bif (decide (x2 < x1)) then (bif ((decide ((0 : Int) ≤ x2)) && (decide (x2 < (x0.length : Int)))) then (bif (decide ((elem (Ty.int IntKind.u8) x0 x2) ≥ (97 : Int))) then ((s3 x2 (elem (Ty.int IntKind.u8) x0 x2) (decide ((elem (Ty.int IntKind.u8) x0 x2) ≤ (122 : Int))) x0 x1 x2).bind ret) else ((s3 x2 (elem (Ty.int IntKind.u8) x0 x2) false x0 x1 x2).bind ret)) else none) else (ret ((0 : Int))))
def s3c (ret : Int → Option β) (x0 x1 : Int) (x2 : Bool) (x3 : List Int) (x4 x5 : Int) : Option β := (bif (decide (x1 ≥ (48 : Int))) then (bif (decide (x1 ≤ (57 : Int))) then ((s4 x0 x2 true x3 x4 x5).bind ret) else ((s4 x0 x2 (x1 == (95 : Int)) x3 x4 x5).bind ret)) else ((s4 x0 x2 (x1 == (95 : Int)) x3 x4 x5).bind ret))
def s4c (ret : Int → Option β) (x0 : Int) (x1 x2 : Bool) (x3 : List Int) (x4 x5 : Int) : Option β := (bif (!x1) then (bif (x0 == (0 : Int)) then ((s5 x3 x4 x5 true).bind ret) else ((s5 x3 x4 x5 (!x2)).bind ret)) else ((s5 x3 x4 x5 false).bind ret))
def s5c (ret : Int → Option β) (x0 : List Int) (x1 x2 : Int) (x3 : Bool) : Option β := (bif x3 then (ret ((8 : Int))) else ((s6 x0 x1 x2).bind ret))
def s6c (ret : Int → Option β) (x0 : List Int) (x1 x2 : Int) : Option β := ((s2 x0 x1 (IntKind.wrap .i64 (x2 + (1 : Int)))).bind ret)
variable {s0} {s1} {s2} {s3} {s4} {s5} {s6}
theorem ev : EvA (env s0 s1 s2 s3 s4 s5 s6) [] [0] e (A (c s0 some)) := fun x y => Eq.trans (b := (A (c s0 fun r => some (e r))).G x y) (by kernel_rfl) (by simp only [A, c, bo, so, oa, os, on, ofs])
theorem s0_ev : EvA (env s0 s1 s2 s3 s4 s5 s6) [1, 0, 1] [0, 13] e (A_0 (s0c s1 some)) := fun x y => Eq.trans (b := (A_0 (s0c s1 fun r => some (e r))).G x y) (by kernel_rfl) (by simp only [A_0, s0c, bo, so, oa, os, on, ofs])
theorem s1_ev : EvA (env s0 s1 s2 s3 s4 s5 s6) [1, 1] [0] e (A_1 (s1c s2 some)) := fun x y => Eq.trans (b := (A_1 (s1c s2 fun r => some (e r))).G x y) (by kernel_rfl) (by simp only [A_1, s1c, bo, so, oa, os, on, ofs])
theorem s2_ev : EvA (env s0 s1 s2 s3 s4 s5 s6) [4, 1, 0, 1, 1] [15, 16, 17] e (A_2 (s2c s3 some)) := fun x y => Eq.trans (b := (A_2 (s2c s3 fun r => some (e r))).G x y) (by kernel_rfl) (by simp only [A_2, s2c, bo, so, oa, os, on, ofs])
theorem s3_ev : EvA (env s0 s1 s2 s3 s4 s5 s6) [1, 1, 4, 0, 1, 1, 5, 4, 1, 0, 1, 1] [3, 4, 5, 15, 16, 17] e (A_3 (s3c s4 some)) := fun x y => Eq.trans (b := (A_3 (s3c s4 fun r => some (e r))).G x y) (by kernel_rfl) (by simp only [A_3, s3c, bo, so, oa, os, on, ofs])
theorem s4_ev : EvA (env s0 s1 s2 s3 s4 s5 s6) [1, 1, 1, 4, 0, 1, 1, 5, 4, 1, 0, 1, 1] [3, 5, 6, 15, 16, 17] e (A_4 (s4c s5 some)) := fun x y => Eq.trans (b := (A_4 (s4c s5 fun r => some (e r))).G x y) (by kernel_rfl) (by simp only [A_4, s4c, bo, so, oa, os, on, ofs])
theorem s5_ev : EvA (env s0 s1 s2 s3 s4 s5 s6) [1, 1, 1, 1, 4, 0, 1, 1, 5, 4, 1, 0, 1, 1] [15, 16, 17, 47] e (A_5 (s5c s6 some)) := fun x y => Eq.trans (b := (A_5 (s5c s6 fun r => some (e r))).G x y) (by kernel_rfl) (by simp only [A_5, s5c, bo, so, oa, os, on, ofs])
theorem s6_ev : EvA (env s0 s1 s2 s3 s4 s5 s6) [1, 1, 1, 5, 4, 1, 0, 1, 1] [15, 16, 17] e (A_6 (s6c s2 some)) := fun x y => Eq.trans (b := (A_6 (s6c s2 fun r => some (e r))).G x y) (by kernel_rfl) (by simp only [A_6, s6c, bo, so, oa, os, on, ofs])
end
mutual
def s0 : Nat → S0 Int
 | 0, _, _ => none
 | k + 1, x0, x1 => s0c (s1 k) some x0 x1
def s1 : Nat → S1 Int
 | 0, _ => none
 | k + 1, x0 => s1c (s2 k) some x0
def s2 : Nat → S2 Int
 | 0, _, _, _ => none
 | k + 1, x0, x1, x2 => s2c (s3 k) some x0 x1 x2
def s3 : Nat → S3 Int
 | 0, _, _, _, _, _, _ => none
 | k + 1, x0, x1, x2, x3, x4, x5 => s3c (s4 k) some x0 x1 x2 x3 x4 x5
def s4 : Nat → S4 Int
 | 0, _, _, _, _, _, _ => none
 | k + 1, x0, x1, x2, x3, x4, x5 => s4c (s5 k) some x0 x1 x2 x3 x4 x5
def s5 : Nat → S5 Int
 | 0, _, _, _, _ => none
 | k + 1, x0, x1, x2, x3 => s5c (s6 k) some x0 x1 x2 x3
def s6 : Nat → S6 Int
 | 0, _, _, _ => none
 | k + 1, x0, x1, x2 => s6c (s2 k) some x0 x1 x2
end
def f (k : Nat) (a0 : ByteArray) : Option Int := c (s0 k) some a0
noncomputable abbrev E (k : Nat) : FEnv := env  (s0 k) (s1 k) (s2 k) (s3 k) (s4 k) (s5 k) (s6 k)
theorem hE (k : Nat) : EnvOK (E k).toEnv := ctsOK L0
theorem sk : ∀ k, ∀ s ∈ [sg0 (s0 k), sg1 (s1 k), sg2 (s2 k), sg3 (s3 k), sg4 (s4 k), sg5 (s5 k), sg6 (s6 k)], SegB prog f98 0 s
 | 0 => (Lc (sn (Lc (fun _ _ => rfl) L0)) (Lc (sn (Lc (fun _ _ => rfl) L0)) (Lc (sn (Lc (fun _ _ => rfl) L0)) (Lc (sn (Lc (fun _ _ => rfl) L0)) (Lc (sn (Lc (fun _ _ => rfl) L0)) (Lc (sn (Lc (fun _ _ => rfl) L0)) (Lc (sn (Lc (fun _ _ => rfl) L0)) L0)))))))
 | k + 1 => (Lc (sg_ok (hE k) (sk k) (Lc s0_ev L0)) (Lc (sg_ok (hE k) (sk k) (Lc s1_ev L0)) (Lc (sg_ok (hE k) (sk k) (Lc s2_ev L0)) (Lc (sg_ok (hE k) (sk k) (Lc s3_ev L0)) (Lc (sg_ok (hE k) (sk k) (Lc s4_ev L0)) (Lc (sg_ok (hE k) (sk k) (Lc s5_ev L0)) (Lc (sg_ok (hE k) (sk k) (Lc s6_ev L0)) L0)))))))
theorem ok (k : Nat) : CtOK prog 98 (ct (f k)) := fn_ok func98 rfl (by decide) (hE k) (sk k) (Lc ev L0)
end names_Check
namespace values_only
abbrev R : Type := Int × Int × Int × ByteArray
def e (r : R) : Res := ⟨.v (.agg [(.d (.int .i64) r.1), (.d (.int .i64) r.2.1), (.d (.int .u64) r.2.2.1), (.d .str r.2.2.2)]), []⟩
abbrev T (δ : Type) : Type := Int → Int → Int → ByteArray → Option δ
abbrev A {δ : Type} (g : T δ) : Arm δ := ⟨[.s T_api_Value], [], fun x y => g x.1.1.1 x.1.1.2.1 x.1.1.2.2.1 x.1.1.2.2.2.1⟩
abbrev G : Type := T R
def ct (g : G) : Ct := mkCt 0 [] [A g] e
abbrev S0 (δ : Type) : Type := Int → Bool → Int → Int → Int → ByteArray → Int → Int → Int → ByteArray → Int → Int → Int → ByteArray → Option δ
abbrev A_0 {δ : Type} (s : S0 δ) : Arm δ := ⟨[.k (.ptr 0 0), .k (.ptr 1 0), .k (.ptr 2 0), .d (.int .i64), .d .bool], [.box [.g T_api_Value], .box [.g T_api_Value], .box [.g T_api_Value]], fun x y => s x.2.2.2.1 x.2.2.2.2.1 y.1.1.1 y.1.1.2.1 y.1.1.2.2.1 y.1.1.2.2.2.1 y.2.1.1.1 y.2.1.1.2.1 y.2.1.1.2.2.1 y.2.1.1.2.2.2.1 y.2.2.1.1.1 y.2.2.1.1.2.1 y.2.2.1.1.2.2.1 y.2.2.1.1.2.2.2.1⟩
def sg0 (s : S0 R) : Seg := mkSg [1, 4, 1, 0, 1, 1] [] [1, 2, 3, 8, 9] [A_0 s] e
section
variable {β : Type} (s0 : S0 R)
noncomputable abbrev env : FEnv := mkEnv prog f74 [] 0 [] [sg0 s0]
def c (ret : R → Option β) (a0 a1 a2 : Int) (a3 : ByteArray) : Option β := (bif (a0 == (1 : Int)) then ((s0 a0 (a0 == (1 : Int)) a0 a1 a2 a3 (0 : Int) (0 : Int) (0 : Int) (ByteArray.mk (List.toArray [])) a0 (0 : Int) (0 : Int) (ByteArray.mk (List.toArray []))).bind ret) else ((s0 a0 (a0 == (2 : Int)) a0 a1 a2 a3 (0 : Int) (0 : Int) (0 : Int) (ByteArray.mk (List.toArray [])) a0 (0 : Int) (0 : Int) (ByteArray.mk (List.toArray []))).bind ret))
def s0c (ret : R → Option β) (x0 : Int) (x1 : Bool) (x2 x3 x4 : Int) (x5 : ByteArray) (x6 x7 x8 : Int) (x9 : ByteArray) (x10 x11 x12 : Int) (x13 : ByteArray) : Option β := (bif x1 then (ret (x10, x3, x12, x13)) else (bif (x0 == (3 : Int)) then (ret (x10, x11, x4, x13)) else (bif (x0 == (4 : Int)) then (bif (x0 == (4 : Int)) then (ret (x10, x11, x12, x5)) else (ret (x10, x11, x12, x13))) else (bif (x0 == (5 : Int)) then (ret (x10, x11, x12, x5)) else (ret (x10, x11, x12, x13))))))
variable {s0}
theorem ev : EvA (env s0) [] [0] e (A (c s0 some)) := fun x y => Eq.trans (b := (A (c s0 fun r => some (e r))).G x y) (by kernel_rfl) (by simp only [A, c, bo, so, oa, os, on, ofs])
theorem s0_ev : EvA (env s0) [1, 4, 1, 0, 1, 1] [1, 2, 3, 8, 9] e (A_0 (s0c some)) := fun x y => Eq.trans (b := (A_0 (s0c fun r => some (e r))).G x y) (by kernel_rfl) (by simp only [A_0, s0c, bo, so, oa, os, on, ofs])
end
def s0 : Nat → S0 R
 | 0, _, _, _, _, _, _, _, _, _, _, _, _, _, _ => none
 | k + 1, x0, x1, x2, x3, x4, x5, x6, x7, x8, x9, x10, x11, x12, x13 => s0c  some x0 x1 x2 x3 x4 x5 x6 x7 x8 x9 x10 x11 x12 x13
def f (k : Nat) (a0 a1 a2 : Int) (a3 : ByteArray) : Option R := c (s0 k) some a0 a1 a2 a3
noncomputable abbrev E (k : Nat) : FEnv := env  (s0 k)
theorem hE (k : Nat) : EnvOK (E k).toEnv := ctsOK L0
theorem sk : ∀ k, ∀ s ∈ [sg0 (s0 k)], SegB prog f74 0 s
 | 0 => (Lc (sn (Lc (fun _ _ => rfl) L0)) L0)
 | k + 1 => (Lc (sg_ok (hE k) (sk k) (Lc s0_ev L0)) L0)
theorem ok (k : Nat) : CtOK prog 74 (ct (f k)) := fn_ok func74 rfl (by decide) (hE k) (sk k) (Lc ev L0)
end values_only
/-! ### math_Float64frombits: function 106 (no body) -/
def math_Float64frombits.ct (g : Int → Option Nat) : Ct where
 nin := 0
 mv := []
 F := fun tvs blks {β} K => match tvs, blks with
  | [.v (.one (.d (.int .u64) a0))], [] => (g a0).bind fun r => K ⟨.v (.one (.d .flt r)), []⟩
  | _, _ => none
 legit := fun _ _ K _ h => by split at h; exact (legit1 K h :); simp at h
def math_Float64frombits.f (k : Nat) (a0 : Int) : Option Nat := some (a0.toNat)
theorem math_Float64frombits.ok (k : Nat) : CtOK Go.Proofs.Tryz.prog 106 (math_Float64frombits.ct (math_Float64frombits.f k)) := by
 refine ct_extern ?_
 intro tvs blks res h
 simp only [math_Float64frombits.ct] at h
 split at h
 ·simp only [math_Float64frombits.f, os, Option.some.injEq] at h; subst h
  rename_i a0
  refine ⟨.float .f64 a0.toNat, ?_, rfl, rfl⟩
  intro w S ρ H vals hm hv
  obtain ⟨v0, m0, rfl, h0, hv⟩ := All2.cons_left hv
  cases All2.nil_left hv
  simp only [RepTV, RepVV, RepAV, Rd, List.cons.injEq, and_true] at h0
  subst h0
  exact ⟨run_callFunc_extern (e := Extern.MathFloatBits.float64frombits) Go.Proofs.Tryz.func106 (by kernel_rfl) (by kernel_rfl) (by kernel_rfl) (by kernel_rfl) _ w, rfl⟩
 ·simp at h


namespace reals_Canon
def e (r : Int) : Res := ⟨.v (.one (.d (.int .u64) r)), []⟩
abbrev T (δ : Type) : Type := Int → Option δ
abbrev A {δ : Type} (g : T δ) : Arm δ := ⟨[.d (.int .u64)], [], fun x y => g x.1⟩
abbrev G : Type := T Int
def ct (g : G) : Ct := mkCt 0 [] [A g] e
section
variable {β : Type} (g106 : Int → Option Nat)
noncomputable abbrev env : FEnv := mkEnv prog f75 [(106, math_Float64frombits.ct g106)] 0 [] []
def c (ret : Int → Option β) (a0 : Int) : Option β := ((g106 a0).bind fun r0 => (bif ((Ieee.Format.order (FloatKind.format FloatKind.f64) r0 r0) != (Option.some Ordering.eq)) then (ret ((9221120237041090560 : Int))) else (ret (a0))))
variable {g106}
theorem ev : EvA (env g106) [] [0] e (A (c g106 some)) := fun x y => Eq.trans (b := (A (c g106 fun r => some (e r))).G x y) (by kernel_rfl) (by simp only [A, c, bo, so, oa, os, on, ofs])
end
def f (k : Nat) (a0 : Int) : Option Int := c (math_Float64frombits.f k) some a0
noncomputable abbrev E (k : Nat) : FEnv := env (math_Float64frombits.f k) 
theorem hE (k : Nat) : EnvOK (E k).toEnv := ctsOK (Lc (math_Float64frombits.ok k) L0)
theorem ok (k : Nat) : CtOK prog 75 (ct (f k)) := fn_ok func75 rfl (by decide) (hE k) L0 (Lc ev L0)
end reals_Canon
namespace utf_first
abbrev R : Type := Int × Int × Int × Int
def e (r : R) : Res := ⟨.tup [(.one (.d (.int .i64) r.1)), (.one (.d (.int .i64) r.2.1)), (.one (.d (.int .u8) r.2.2.1)), (.one (.d (.int .u8) r.2.2.2))], []⟩
abbrev T (δ : Type) : Type := Int → Option δ
abbrev A {δ : Type} (g : T δ) : Arm δ := ⟨[.d (.int .u8)], [], fun x y => g x.1⟩
abbrev G : Type := T R
def ct (g : G) : Ct := mkCt 0 [] [A g] e
abbrev S0 (δ : Type) : Type := Int → Bool → Option δ
abbrev A_0 {δ : Type} (s : S0 δ) : Arm δ := ⟨[.d (.int .u8), .d .bool], [], fun x y => s x.1 x.2.1⟩
def sg0 (s : S0 R) : Seg := mkSg [1, 3, 1, 4, 0, 1] [] [0, 11] [A_0 s] e
section
variable {β : Type} (s0 : S0 R)
noncomputable abbrev env : FEnv := mkEnv prog f129 [] 0 [] [sg0 s0]
def c (ret : R → Option β) (a0 : Int) : Option β := (bif (decide (a0 < (128 : Int))) then (ret ((1 : Int), (IntKind.wrap .i64 a0), (0 : Int), (0 : Int))) else (bif (decide (a0 < (194 : Int))) then ((s0 a0 true).bind ret) else ((s0 a0 (decide (a0 > (244 : Int)))).bind ret)))
def s0c (ret : R → Option β) (x0 : Int) (x1 : Bool) : Option β := (bif x1 then (ret ((0 : Int), (0 : Int), (0 : Int), (0 : Int))) else (bif (decide (x0 < (224 : Int))) then (ret ((2 : Int), (IntKind.wrap .i64 (IntKind.wrap .u8 ((BitVec.toNat ((BitVec.ofInt (8 : Nat) x0) &&& (BitVec.ofInt (8 : Nat) (31 : Int)))) : Int))), (128 : Int), (191 : Int))) else (bif (x0 == (224 : Int)) then (ret ((3 : Int), (0 : Int), (160 : Int), (191 : Int))) else (bif (x0 == (237 : Int)) then (ret ((3 : Int), (IntKind.wrap .i64 (IntKind.wrap .u8 ((BitVec.toNat ((BitVec.ofInt (8 : Nat) x0) &&& (BitVec.ofInt (8 : Nat) (15 : Int)))) : Int))), (128 : Int), (159 : Int))) else (bif (decide (x0 < (240 : Int))) then (ret ((3 : Int), (IntKind.wrap .i64 (IntKind.wrap .u8 ((BitVec.toNat ((BitVec.ofInt (8 : Nat) x0) &&& (BitVec.ofInt (8 : Nat) (15 : Int)))) : Int))), (128 : Int), (191 : Int))) else (bif (x0 == (240 : Int)) then (ret ((4 : Int), (0 : Int), (144 : Int), (191 : Int))) else (bif (x0 == (244 : Int)) then (ret ((4 : Int), (4 : Int), (128 : Int), (143 : Int))) else (ret ((4 : Int), (IntKind.wrap .i64 (IntKind.wrap .u8 ((BitVec.toNat ((BitVec.ofInt (8 : Nat) x0) &&& (BitVec.ofInt (8 : Nat) (7 : Int)))) : Int))), (128 : Int), (191 : Int))))))))))
variable {s0}
theorem ev : EvA (env s0) [] [0] e (A (c s0 some)) := fun x y => Eq.trans (b := (A (c s0 fun r => some (e r))).G x y) (by kernel_rfl) (by simp only [A, c, bo, so, oa, os, on, ofs])
theorem s0_ev : EvA (env s0) [1, 3, 1, 4, 0, 1] [0, 11] e (A_0 (s0c some)) := fun x y => Eq.trans (b := (A_0 (s0c fun r => some (e r))).G x y) (by kernel_rfl) (by simp only [A_0, s0c, bo, so, oa, os, on, ofs])
end
def s0 : Nat → S0 R
 | 0, _, _ => none
 | k + 1, x0, x1 => s0c  some x0 x1
def f (k : Nat) (a0 : Int) : Option R := c (s0 k) some a0
noncomputable abbrev E (k : Nat) : FEnv := env  (s0 k)
theorem hE (k : Nat) : EnvOK (E k).toEnv := ctsOK L0
theorem sk : ∀ k, ∀ s ∈ [sg0 (s0 k)], SegB prog f129 0 s
 | 0 => (Lc (sn (Lc (fun _ _ => rfl) L0)) L0)
 | k + 1 => (Lc (sg_ok (hE k) (sk k) (Lc s0_ev L0)) L0)
theorem ok (k : Nat) : CtOK prog 129 (ct (f k)) := fn_ok func129 rfl (by decide) (hE k) (sk k) (Lc ev L0)
end utf_first
namespace utf_Next
abbrev R : Type := Int × Int × Int
def e (r : R) : Res := ⟨.tup [(.one (.d (.int .i64) r.1)), (.one (.d (.int .i64) r.2.1)), (.one (.d (.int .i64) r.2.2))], []⟩
abbrev T (δ : Type) : Type := ByteArray → Option δ
abbrev A {δ : Type} (g : T δ) : Arm δ := ⟨[.d .str], [], fun x y => g x.1⟩
abbrev G : Type := T R
def ct (g : G) : Ct := mkCt 0 [] [A g] e
abbrev S0 (δ : Type) : Type := ByteArray → Int → Int → Int → Int → Int → Int → Option δ
abbrev A_0 {δ : Type} (s : S0 δ) : Arm δ := ⟨[.d .str, .d (.int .i64), .d (.int .i64), .d (.int .u8), .d (.int .u8), .d (.int .i64), .d (.int .i64)], [], fun x y => s x.1 x.2.1 x.2.2.1 x.2.2.2.1 x.2.2.2.2.1 x.2.2.2.2.2.1 x.2.2.2.2.2.2.1⟩
abbrev S1 (δ : Type) : Type := ByteArray → Int → Int → Int → Int → Bool → Option δ
abbrev A_1 {δ : Type} (s : S1 δ) : Arm δ := ⟨[.d .str, .d (.int .i64), .d (.int .i64), .d (.int .i64), .d (.int .i64), .d .bool], [], fun x y => s x.1 x.2.1 x.2.2.1 x.2.2.2.1 x.2.2.2.2.1 x.2.2.2.2.2.1⟩
abbrev S2 (δ : Type) : Type := ByteArray → Int → Int → Int → Int → Option δ
abbrev A_2 {δ : Type} (s : S2 δ) : Arm δ := ⟨[.d .str, .d (.int .i64), .d (.int .i64), .d (.int .i64), .d (.int .i64)], [], fun x y => s x.1 x.2.1 x.2.2.1 x.2.2.2.1 x.2.2.2.2.1⟩
abbrev S3 (δ : Type) : Type := ByteArray → Int → Int → Int → Int → Int → Int → Option δ
abbrev A_3 {δ : Type} (s : S3 δ) : Arm δ := ⟨[.d .str, .d (.int .i64), .d (.int .i64), .d (.int .u8), .d (.int .u8), .d (.int .i64), .d (.int .i64)], [], fun x y => s x.1 x.2.1 x.2.2.1 x.2.2.2.1 x.2.2.2.2.1 x.2.2.2.2.2.1 x.2.2.2.2.2.2.1⟩
def sg0 (s : S0 R) : Seg := mkSg [4, 1, 0, 1, 1, 1, 1, 1, 6, 1] [] [0, 5, 6, 7, 8, 9, 10] [A_0 s] e
def sg1 (s : S1 R) : Seg := mkSg [1, 3, 1, 4, 0, 4, 0, 1, 5, 4, 1, 0, 1, 1, 1, 1, 1, 6, 1] [] [0, 5, 6, 9, 10, 33] [A_1 s] e
def sg2 (s : S2 R) : Seg := mkSg [1, 4, 0, 1, 5, 4, 1, 0, 1, 1, 1, 1, 1, 6, 1] [] [0, 5, 6, 9, 10] [A_2 s] e
def sg3 (s : S3 R) : Seg := mkSg [1, 1, 5, 4, 1, 0, 1, 1, 1, 1, 1, 6, 1] [] [0, 5, 6, 7, 8, 9, 10] [A_3 s] e
section
variable {β : Type} (g129 : utf_first.G) (s0 : S0 R) (s1 : S1 R) (s2 : S2 R) (s3 : S3 R)
noncomputable abbrev env : FEnv := mkEnv prog f122 [(129, utf_first.ct g129)] 0 [] [sg0 s0, sg1 s1, sg2 s2, sg3 s3]
def c (ret : R → Option β) (a0 : ByteArray) : Option β := (bif (a0.toList == (ByteArray.toList (ByteArray.mk (List.toArray [])))) then (ret ((0 : Int), (0 : Int), (3 : Int))) else (bif (true && (decide ((0 : Int) < (a0.size : Int)))) then ((g129 (bt a0 (0 : Int))).bind fun r0 => (bif (r0.1 == (0 : Int)) then (ret ((0 : Int), (0 : Int), (7 : Int))) else ((s0 a0 r0.1 r0.2.1 r0.2.2.1 r0.2.2.2 (0 : Int) (1 : Int)).bind ret))) else none))
def s0c (ret : R → Option β) (x0 : ByteArray) (x1 x2 : Int) (x3 x4 : Int) (x5 x6 : Int) : Option β := (bif (decide (x6 < x1)) then (bif (decide (x6 ≥ (x0.size : Int))) then (ret ((0 : Int), (0 : Int), (3 : Int))) else (bif ((decide ((0 : Int) ≤ x6)) && (decide (x6 < (x0.size : Int)))) then (bif (decide ((bt x0 x6) < x3)) then ((s1 x0 x1 x2 x5 x6 true).bind ret) else (bif ((decide ((0 : Int) ≤ x6)) && (decide (x6 < (x0.size : Int)))) then ((s1 x0 x1 x2 x5 x6 (decide ((bt x0 x6) > x4))).bind ret) else none)) else none)) else (bif (x5 != (0 : Int)) then (ret ((0 : Int), (0 : Int), x5)) else (ret (x2, x1, (0 : Int)))))
def s1c (ret : R → Option β) (x0 : ByteArray) (x1 x2 : Int) (x3 x4 : Int) (x5 : Bool) : Option β := (bif x5 then (ret ((0 : Int), (0 : Int), (7 : Int))) else ((s2 x0 x1 x2 x3 x4).bind ret))
def s2c (ret : R → Option β) (x0 : ByteArray) (x1 x2 : Int) (x3 x4 : Int) : Option β := (bif ((decide ((0 : Int) ≤ x4)) && (decide (x4 < (x0.size : Int)))) then ((s3 x0 x1 (IntKind.wrap .i64 ((BitVec.toNat ((BitVec.ofInt (64 : Nat) (IntKind.wrap .i64 (x2 * (64 : Int)))) ||| (BitVec.ofInt (64 : Nat) (IntKind.wrap .i64 (IntKind.wrap .u8 ((BitVec.toNat ((BitVec.ofInt (8 : Nat) (bt x0 x4)) &&& (BitVec.ofInt (8 : Nat) (63 : Int)))) : Int)))))) : Int)) (128 : Int) (191 : Int) x3 x4).bind ret) else none)
def s3c (ret : R → Option β) (x0 : ByteArray) (x1 x2 : Int) (x3 x4 : Int) (x5 x6 : Int) : Option β := ((s0 x0 x1 x2 x3 x4 x5 (IntKind.wrap .i64 (x6 + (1 : Int)))).bind ret)
variable {g129} {s0} {s1} {s2} {s3}
theorem ev : EvA (env g129 s0 s1 s2 s3) [] [0] e (A (c g129 s0 some)) := fun x y => Eq.trans (b := (A (c g129 s0 fun r => some (e r))).G x y) (by kernel_rfl) (by simp only [A, c, bo, so, oa, os, on, ofs])
theorem s0_ev : EvA (env g129 s0 s1 s2 s3) [4, 1, 0, 1, 1, 1, 1, 1, 6, 1] [0, 5, 6, 7, 8, 9, 10] e (A_0 (s0c s1 some)) := fun x y => Eq.trans (b := (A_0 (s0c s1 fun r => some (e r))).G x y) (by kernel_rfl) (by simp only [A_0, s0c, bo, so, oa, os, on, ofs])
theorem s1_ev : EvA (env g129 s0 s1 s2 s3) [1, 3, 1, 4, 0, 4, 0, 1, 5, 4, 1, 0, 1, 1, 1, 1, 1, 6, 1] [0, 5, 6, 9, 10, 33] e (A_1 (s1c s2 some)) := fun x y => Eq.trans (b := (A_1 (s1c s2 fun r => some (e r))).G x y) (by kernel_rfl) (by simp only [A_1, s1c, bo, so, oa, os, on, ofs])
theorem s2_ev : EvA (env g129 s0 s1 s2 s3) [1, 4, 0, 1, 5, 4, 1, 0, 1, 1, 1, 1, 1, 6, 1] [0, 5, 6, 9, 10] e (A_2 (s2c s3 some)) := fun x y => Eq.trans (b := (A_2 (s2c s3 fun r => some (e r))).G x y) (by kernel_rfl) (by simp only [A_2, s2c, bo, so, oa, os, on, ofs])
theorem s3_ev : EvA (env g129 s0 s1 s2 s3) [1, 1, 5, 4, 1, 0, 1, 1, 1, 1, 1, 6, 1] [0, 5, 6, 7, 8, 9, 10] e (A_3 (s3c s0 some)) := fun x y => Eq.trans (b := (A_3 (s3c s0 fun r => some (e r))).G x y) (by kernel_rfl) (by simp only [A_3, s3c, bo, so, oa, os, on, ofs])
end
mutual
def s0 : Nat → S0 R
 | 0, _, _, _, _, _, _, _ => none
 | k + 1, x0, x1, x2, x3, x4, x5, x6 => s0c (s1 k) some x0 x1 x2 x3 x4 x5 x6
def s1 : Nat → S1 R
 | 0, _, _, _, _, _, _ => none
 | k + 1, x0, x1, x2, x3, x4, x5 => s1c (s2 k) some x0 x1 x2 x3 x4 x5
def s2 : Nat → S2 R
 | 0, _, _, _, _, _ => none
 | k + 1, x0, x1, x2, x3, x4 => s2c (s3 k) some x0 x1 x2 x3 x4
def s3 : Nat → S3 R
 | 0, _, _, _, _, _, _, _ => none
 | k + 1, x0, x1, x2, x3, x4, x5, x6 => s3c (s0 k) some x0 x1 x2 x3 x4 x5 x6
end
def f (k : Nat) (a0 : ByteArray) : Option R := c (utf_first.f k) (s0 k) some a0
noncomputable abbrev E (k : Nat) : FEnv := env (utf_first.f k) (s0 k) (s1 k) (s2 k) (s3 k)
theorem hE (k : Nat) : EnvOK (E k).toEnv := ctsOK (Lc (utf_first.ok k) L0)
theorem sk : ∀ k, ∀ s ∈ [sg0 (s0 k), sg1 (s1 k), sg2 (s2 k), sg3 (s3 k)], SegB prog f122 0 s
 | 0 => (Lc (sn (Lc (fun _ _ => rfl) L0)) (Lc (sn (Lc (fun _ _ => rfl) L0)) (Lc (sn (Lc (fun _ _ => rfl) L0)) (Lc (sn (Lc (fun _ _ => rfl) L0)) L0))))
 | k + 1 => (Lc (sg_ok (hE k) (sk k) (Lc s0_ev L0)) (Lc (sg_ok (hE k) (sk k) (Lc s1_ev L0)) (Lc (sg_ok (hE k) (sk k) (Lc s2_ev L0)) (Lc (sg_ok (hE k) (sk k) (Lc s3_ev L0)) L0))))
theorem ok (k : Nat) : CtOK prog 122 (ct (f k)) := fn_ok func122 rfl (by decide) (hE k) (sk k) (Lc ev L0)
end utf_Next
namespace utf_Count
def e (r : Int) : Res := ⟨.v (.one (.d (.int .i64) r)), []⟩
abbrev T (δ : Type) : Type := ByteArray → Option δ
abbrev A {δ : Type} (g : T δ) : Arm δ := ⟨[.d .str], [], fun x y => g x.1⟩
abbrev G : Type := T Int
def ct (g : G) : Ct := mkCt 0 [] [A g] e
abbrev S0 (δ : Type) : Type := ByteArray → Int → Option δ
abbrev A_0 {δ : Type} (s : S0 δ) : Arm δ := ⟨[.d .str, .d (.int .i64)], [], fun x y => s x.1 x.2.1⟩
def sg0 (s : S0 Int) : Seg := mkSg [4, 0, 1, 1] [] [0, 3] [A_0 s] e
section
variable {β : Type} (g122 : utf_Next.G) (s0 : S0 Int)
noncomputable abbrev env : FEnv := mkEnv prog f107 [(122, utf_Next.ct g122)] 0 [] [sg0 s0]
def c (ret : Int → Option β) (a0 : ByteArray) : Option β := ((s0 a0 (0 : Int)).bind ret)
def s0c (ret : Int → Option β) (x0 : ByteArray) (x1 : Int) : Option β := (bif (!(x0.toList == (ByteArray.toList (ByteArray.mk (List.toArray []))))) then ((g122 x0).bind fun r0 => (bif (r0.2.2 != (0 : Int)) then (ret ((-1 : Int))) else (bif (((decide ((0 : Int) ≤ r0.2.1)) && (decide (r0.2.1 ≤ (x0.size : Int)))) && (decide ((x0.size : Int) ≤ (x0.size : Int)))) then ((s0 (ByteArray.extract x0 (Int.toNat r0.2.1) (Int.toNat (x0.size : Int))) (IntKind.wrap .i64 (x1 + (1 : Int)))).bind ret) else none))) else (ret (x1)))
variable {g122} {s0}
theorem ev : EvA (env g122 s0) [] [0] e (A (c s0 some)) := fun x y => Eq.trans (b := (A (c s0 fun r => some (e r))).G x y) (by kernel_rfl) (by simp only [A, c, bo, so, oa, os, on, ofs])
theorem s0_ev : EvA (env g122 s0) [4, 0, 1, 1] [0, 3] e (A_0 (s0c g122 s0 some)) := fun x y => Eq.trans (b := (A_0 (s0c g122 s0 fun r => some (e r))).G x y) (by kernel_rfl) (by simp only [A_0, s0c, bo, so, oa, os, on, ofs])
end
def s0 : Nat → S0 Int
 | 0, _, _ => none
 | k + 1, x0, x1 => s0c (utf_Next.f k) (s0 k) some x0 x1
def f (k : Nat) (a0 : ByteArray) : Option Int := c (s0 k) some a0
noncomputable abbrev E (k : Nat) : FEnv := env (utf_Next.f k) (s0 k)
theorem hE (k : Nat) : EnvOK (E k).toEnv := ctsOK (Lc (utf_Next.ok k) L0)
theorem sk : ∀ k, ∀ s ∈ [sg0 (s0 k)], SegB prog f107 0 s
 | 0 => (Lc (sn (Lc (fun _ _ => rfl) L0)) L0)
 | k + 1 => (Lc (sg_ok (hE k) (sk k) (Lc s0_ev L0)) L0)
theorem ok (k : Nat) : CtOK prog 107 (ct (f k)) := fn_ok func107 rfl (by decide) (hE k) (sk k) (Lc ev L0)
end utf_Count
namespace utf_Valid
def e (r : Bool) : Res := ⟨.v (.one (.d .bool r)), []⟩
abbrev T (δ : Type) : Type := ByteArray → Option δ
abbrev A {δ : Type} (g : T δ) : Arm δ := ⟨[.d .str], [], fun x y => g x.1⟩
abbrev G : Type := T Bool
def ct (g : G) : Ct := mkCt 0 [] [A g] e
section
variable {β : Type} (g107 : utf_Count.G)
noncomputable abbrev env : FEnv := mkEnv prog f76 [(107, utf_Count.ct g107)] 0 [] []
def c (ret : Bool → Option β) (a0 : ByteArray) : Option β := ((g107 a0).bind fun r0 => (ret ((decide (r0 ≥ (0 : Int))))))
variable {g107}
theorem ev : EvA (env g107) [] [0] e (A (c g107 some)) := fun x y => Eq.trans (b := (A (c g107 fun r => some (e r))).G x y) (by kernel_rfl) (by simp only [A, c, bo, so, oa, os, on, ofs])
end
def f (k : Nat) (a0 : ByteArray) : Option Bool := c (utf_Count.f k) some a0
noncomputable abbrev E (k : Nat) : FEnv := env (utf_Count.f k) 
theorem hE (k : Nat) : EnvOK (E k).toEnv := ctsOK (Lc (utf_Count.ok k) L0)
theorem ok (k : Nat) : CtOK prog 76 (ct (f k)) := fn_ok func76 rfl (by decide) (hE k) L0 (Lc ev L0)
end utf_Valid
namespace values_Check
def e (r : Int) : Res := ⟨.v (.one (.d (.int .i64) r)), []⟩
abbrev T (δ : Type) : Type := Int → Int → Int → ByteArray → Option δ
abbrev A {δ : Type} (g : T δ) : Arm δ := ⟨[.s T_api_Value], [], fun x y => g x.1.1.1 x.1.1.2.1 x.1.1.2.2.1 x.1.1.2.2.2.1⟩
abbrev G : Type := T Int
def ct (g : G) : Ct := mkCt 0 [] [A g] e
abbrev S0 (δ : Type) : Type := Bool → Int → Int → Int → ByteArray → Option δ
abbrev A_0 {δ : Type} (s : S0 δ) : Arm δ := ⟨[.k (.ptr 0 0), .d .bool], [.box [.g T_api_Value]], fun x y => s x.2.1 y.1.1.1 y.1.1.2.1 y.1.1.2.2.1 y.1.1.2.2.2.1⟩
abbrev S1 (δ : Type) : Type := Bool → Int → Int → Int → ByteArray → Option δ
abbrev A_1 {δ : Type} (s : S1 δ) : Arm δ := ⟨[.k (.ptr 0 0), .d .bool], [.box [.g T_api_Value]], fun x y => s x.2.1 y.1.1.1 y.1.1.2.1 y.1.1.2.2.1 y.1.1.2.2.2.1⟩
def sg0 (s : S0 Int) : Seg := mkSg [1, 4, 0, 1] [] [1, 3] [A_0 s] e
def sg1 (s : S1 Int) : Seg := mkSg [1, 3, 1, 3, 1, 4, 0, 1] [] [1, 17] [A_1 s] e
section
variable {β : Type} (g74 : values_only.G) (g75 : reals_Canon.G) (g76 : utf_Valid.G) (s0 : S0 Int) (s1 : S1 Int)
noncomputable abbrev env : FEnv := mkEnv prog f51 [(74, values_only.ct g74), (75, reals_Canon.ct g75), (76, utf_Valid.ct g76)] 0 [] [sg0 s0, sg1 s1]
def c (ret : Int → Option β) (a0 a1 a2 : Int) (a3 : ByteArray) : Option β := (bif (decide (a0 < (0 : Int))) then ((s0 true a0 a1 a2 a3).bind ret) else ((s0 (decide (a0 ≥ (6 : Int))) a0 a1 a2 a3).bind ret))
def s0c (ret : Int → Option β) (x0 : Bool) (x1 x2 x3 : Int) (x4 : ByteArray) : Option β := (bif x0 then (ret ((5 : Int))) else ((g74 x1 x2 x3 x4).bind fun r0 => (bif (!((r0.1 == x1) && ((r0.2.1 == x2) && ((r0.2.2.1 == x3) && ((r0.2.2.2.toList == x4.toList) && true))))) then (ret ((4 : Int))) else (bif (x1 == (1 : Int)) then (bif (x2 != (0 : Int)) then ((s1 (x2 != (1 : Int)) x1 x2 x3 x4).bind ret) else ((s1 false x1 x2 x3 x4).bind ret)) else ((s1 false x1 x2 x3 x4).bind ret)))))
def s1c (ret : Int → Option β) (x0 : Bool) (x1 x2 x3 : Int) (x4 : ByteArray) : Option β := (bif x0 then (ret ((6 : Int))) else ((g75 x3).bind fun r0 => (bif (r0 != x3) then (ret ((4 : Int))) else (bif (decide ((x4.size : Int) > (64 : Int))) then (ret ((2 : Int))) else (bif (x1 == (5 : Int)) then ((g76 x4).bind fun r1 => (bif (!r1) then (ret ((7 : Int))) else (ret ((0 : Int))))) else (ret ((0 : Int))))))))
variable {g74} {g75} {g76} {s0} {s1}
theorem ev : EvA (env g74 g75 g76 s0 s1) [] [0] e (A (c s0 some)) := fun x y => Eq.trans (b := (A (c s0 fun r => some (e r))).G x y) (by kernel_rfl) (by simp only [A, c, bo, so, oa, os, on, ofs])
theorem s0_ev : EvA (env g74 g75 g76 s0 s1) [1, 4, 0, 1] [1, 3] e (A_0 (s0c g74 s1 some)) := fun x y => Eq.trans (b := (A_0 (s0c g74 s1 fun r => some (e r))).G x y) (by kernel_rfl) (by simp only [A_0, s0c, bo, so, oa, os, on, ofs])
theorem s1_ev : EvA (env g74 g75 g76 s0 s1) [1, 3, 1, 3, 1, 4, 0, 1] [1, 17] e (A_1 (s1c g75 g76 some)) := fun x y => Eq.trans (b := (A_1 (s1c g75 g76 fun r => some (e r))).G x y) (by kernel_rfl) (by simp only [A_1, s1c, bo, so, oa, os, on, ofs])
end
mutual
def s0 : Nat → S0 Int
 | 0, _, _, _, _, _ => none
 | k + 1, x0, x1, x2, x3, x4 => s0c (values_only.f k) (s1 k) some x0 x1 x2 x3 x4
def s1 : Nat → S1 Int
 | 0, _, _, _, _, _ => none
 | k + 1, x0, x1, x2, x3, x4 => s1c (reals_Canon.f k) (utf_Valid.f k) some x0 x1 x2 x3 x4
end
def f (k : Nat) (a0 a1 a2 : Int) (a3 : ByteArray) : Option Int := c (s0 k) some a0 a1 a2 a3
noncomputable abbrev E (k : Nat) : FEnv := env (values_only.f k) (reals_Canon.f k) (utf_Valid.f k) (s0 k) (s1 k)
theorem hE (k : Nat) : EnvOK (E k).toEnv := ctsOK (Lc (values_only.ok k) (Lc (reals_Canon.ok k) (Lc (utf_Valid.ok k) L0)))
theorem sk : ∀ k, ∀ s ∈ [sg0 (s0 k), sg1 (s1 k)], SegB prog f51 0 s
 | 0 => (Lc (sn (Lc (fun _ _ => rfl) L0)) (Lc (sn (Lc (fun _ _ => rfl) L0)) L0))
 | k + 1 => (Lc (sg_ok (hE k) (sk k) (Lc s0_ev L0)) (Lc (sg_ok (hE k) (sk k) (Lc s1_ev L0)) L0))
theorem ok (k : Nat) : CtOK prog 51 (ct (f k)) := fn_ok func51 rfl (by decide) (hE k) (sk k) (Lc ev L0)
end values_Check
namespace schema_col
abbrev R : Type := ((Int × Unit)) ⊕ Unit
def e (r : R) : Res := Sum.elim (fun r =>  ⟨.v (.one (.ifc 140 true (.pair (.int .i64) .unit) r)), []⟩) (fun r =>  ⟨.v (.one (.raw (.nilIface))), []⟩) r
abbrev T (δ : Type) : Type := ByteArray → Int → Bool → Int → Int → Int → ByteArray → Option δ
abbrev A {δ : Type} (g : T δ) : Arm δ := ⟨[.s T_api_Col], [], fun x y => g x.1.1.1 x.1.1.2.1 x.1.1.2.2.1 x.1.1.2.2.2.1.1 x.1.1.2.2.2.1.2.1 x.1.1.2.2.2.1.2.2.1 x.1.1.2.2.2.1.2.2.2.1⟩
abbrev G : Type := T R
def ek {β : Type} (r : R) (K : Res → Option β) : Option β := Sum.elim (fun r => K ⟨.v (.one (.ifc 140 true (.pair (.int .i64) .unit) r)), []⟩) (fun r => K ⟨.v (.one (.raw (.nilIface))), []⟩) r
theorem hk {β : Type} (r : R) (K : Res → Option β) : ek r K = K (e r) := by rcases r with _ | _ <;> rfl
def ct (g : G) : Ct := mkCtS 0 [] [A g] e ek hk
abbrev S0 (δ : Type) : Type := Bool → ByteArray → Int → Bool → Int → Int → Int → ByteArray → Option δ
abbrev A_0 {δ : Type} (s : S0 δ) : Arm δ := ⟨[.k (.ptr 0 0), .d .bool], [.box [.g T_api_Col]], fun x y => s x.2.1 y.1.1.1 y.1.1.2.1 y.1.1.2.2.1 y.1.1.2.2.2.1.1 y.1.1.2.2.2.1.2.1 y.1.1.2.2.2.1.2.2.1 y.1.1.2.2.2.1.2.2.2.1⟩
abbrev S1 (δ : Type) : Type := ByteArray → Int → Bool → Int → Int → Int → ByteArray → Option δ
abbrev A_1 {δ : Type} (s : S1 δ) : Arm δ := ⟨[.k (.ptr 0 0)], [.box [.g T_api_Col]], fun x y => s y.1.1.1 y.1.1.2.1 y.1.1.2.2.1 y.1.1.2.2.2.1.1 y.1.1.2.2.2.1.2.1 y.1.1.2.2.2.1.2.2.1 y.1.1.2.2.2.1.2.2.2.1⟩
def sg0 (s : S0 R) : Seg := mkSg [1, 0, 1, 1] [] [1, 21] [A_0 s] e
def sg1 (s : S1 R) : Seg := mkSg [1, 1, 1] [] [1] [A_1 s] e
section
variable {β : Type} (g51 : values_Check.G) (g98 : names_Check.G) (s0 : S0 R) (s1 : S1 R)
noncomputable abbrev env : FEnv := mkEnv prog f99 [(51, values_Check.ct g51), (98, names_Check.ct g98)] 0 [] [sg0 s0, sg1 s1]
def c (ret : R → Option β) (a0 : ByteArray) (a1 : Int) (a2 : Bool) (a3 a4 a5 : Int) (a6 : ByteArray) : Option β := ((g98 a0).bind fun r0 => (bif (r0 != (0 : Int)) then (ret (.inl ((r0, ())))) else (bif (decide (a1 < (1 : Int))) then ((s0 true a0 a1 a2 a3 a4 a5 a6).bind ret) else ((s0 (decide (a1 > (5 : Int))) a0 a1 a2 a3 a4 a5 a6).bind ret))))
def s0c (ret : R → Option β) (x0 : Bool) (x1 : ByteArray) (x2 : Int) (x3 : Bool) (x4 x5 x6 : Int) (x7 : ByteArray) : Option β := (bif x0 then (ret (.inl (((5 : Int), ())))) else ((s1 x1 x2 x3 x4 x5 x6 x7).bind ret))
def s1c (ret : R → Option β) (x0 : ByteArray) (x1 : Int) (x2 : Bool) (x3 x4 x5 : Int) (x6 : ByteArray) : Option β := ((g51 x3 x4 x5 x6).bind fun r0 => (bif (r0 != (0 : Int)) then (ret (.inl ((r0, ())))) else (bif (x3 != (0 : Int)) then (bif (x3 != x1) then (ret (.inl (((11 : Int), ())))) else (ret (.inr ()))) else (ret (.inr ())))))
variable {g51} {g98} {s0} {s1}
theorem ev : EvA (env g51 g98 s0 s1) [] [0] e (A (c g98 s0 some)) := fun x y => Eq.trans (b := (A (c g98 s0 fun r => some (e r))).G x y) (by kernel_rfl) (by simp only [A, c, bo, so, oa, os, on, ofs])
theorem s0_ev : EvA (env g51 g98 s0 s1) [1, 0, 1, 1] [1, 21] e (A_0 (s0c s1 some)) := fun x y => Eq.trans (b := (A_0 (s0c s1 fun r => some (e r))).G x y) (by kernel_rfl) (by simp only [A_0, s0c, bo, so, oa, os, on, ofs])
theorem s1_ev : EvA (env g51 g98 s0 s1) [1, 1, 1] [1] e (A_1 (s1c g51 some)) := fun x y => Eq.trans (b := (A_1 (s1c g51 fun r => some (e r))).G x y) (by kernel_rfl) (by simp only [A_1, s1c, bo, so, oa, os, on, ofs])
end
mutual
def s0 : Nat → S0 R
 | 0, _, _, _, _, _, _, _, _ => none
 | k + 1, x0, x1, x2, x3, x4, x5, x6, x7 => s0c (s1 k) some x0 x1 x2 x3 x4 x5 x6 x7
def s1 : Nat → S1 R
 | 0, _, _, _, _, _, _, _ => none
 | k + 1, x0, x1, x2, x3, x4, x5, x6 => s1c (values_Check.f k) some x0 x1 x2 x3 x4 x5 x6
end
def f (k : Nat) (a0 : ByteArray) (a1 : Int) (a2 : Bool) (a3 a4 a5 : Int) (a6 : ByteArray) : Option R := c (names_Check.f k) (s0 k) some a0 a1 a2 a3 a4 a5 a6
noncomputable abbrev E (k : Nat) : FEnv := env (values_Check.f k) (names_Check.f k) (s0 k) (s1 k)
theorem hE (k : Nat) : EnvOK (E k).toEnv := ctsOK (Lc (values_Check.ok k) (Lc (names_Check.ok k) L0))
theorem sk : ∀ k, ∀ s ∈ [sg0 (s0 k), sg1 (s1 k)], SegB prog f99 0 s
 | 0 => (Lc (sn (Lc (fun _ _ => rfl) L0)) (Lc (sn (Lc (fun _ _ => rfl) L0)) L0))
 | k + 1 => (Lc (sg_ok (hE k) (sk k) (Lc s0_ev L0)) (Lc (sg_ok (hE k) (sk k) (Lc s1_ev L0)) L0))
theorem ok (k : Nat) : CtOK prog 99 (ct (f k)) := fn_okS hk (fn_ok func99 rfl (by decide) (hE k) (sk k) (Lc ev L0))
end schema_col
end Go.Proofs.YtijjlpgcpdapnaaGreatDoor.Aev
