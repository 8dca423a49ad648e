import Derived.Test.YtimadphjdkjgaaaGreatDoorTys
import Derived.Test.YtimadphjdkjgaaaGreatDoorProg
import Derived.Laws.Externs
import Derived.Lib.Bytealg
import Derived.Test.YtimadphjdkjgaaaGreatDoorF0
/- By a program of this session (AEV): functions of the program as plain functions, and that the machine does what they say. -/
namespace Go.Proofs.YtimadphjdkjgaaaGreatDoor.Aev
set_option linter.unusedVariables false
set_option linter.unusedSimpArgs false
set_option maxRecDepth 100000
set_option maxHeartbeats 4000000
open Go Go.Proofs.Tryz
/-! ### math_Float64frombits: function 139 (no body) -/
def math_Float64frombits.ct (g : Int → Option Nat) : Ct where
 nin := 0
 mv := []
 F := fun tvs blks {β} K => match tvs, blks with
  | [.v (.one (.d (.int .u64) a0))], [] => (g a0).bind fun r => K ⟨.v (.one (.d .flt r)), []⟩
  | _, _ => none
 legit := fun _ _ K _ h => by split at h; exact (legit1 K h :); simp at h
def math_Float64frombits.f (k : Nat) (a0 : Int) : Option Nat := some (a0.toNat)
theorem math_Float64frombits.ok (k : Nat) : CtOK Go.Proofs.Tryz.prog 139 (math_Float64frombits.ct (math_Float64frombits.f k)) := by
 refine ct_extern ?_
 intro tvs blks res h
 simp only [math_Float64frombits.ct] at h
 split at h
 ·simp only [math_Float64frombits.f, os, Option.some.injEq] at h; subst h
  rename_i a0
  refine ⟨.float .f64 a0.toNat, ?_, rfl, rfl⟩
  intro w S ρ H vals hm hv
  obtain ⟨v0, m0, rfl, h0, hv⟩ := All2.cons_left hv
  cases All2.nil_left hv
  simp only [RepTV, RepVV, RepAV, Rd, List.cons.injEq, and_true] at h0
  subst h0
  exact ⟨run_callFunc_extern (e := Extern.MathFloatBits.float64frombits) Go.Proofs.Tryz.func139 (by kernel_rfl) (by kernel_rfl) (by kernel_rfl) (by kernel_rfl) _ w, rfl⟩
 ·simp at h


namespace reals_Canon
def e (r : Int) : Res := ⟨.v (.one (.d (.int .u64) r)), []⟩
abbrev T (δ : Type) : Type := Int → Option δ
abbrev A {δ : Type} (g : T δ) : Arm δ := ⟨[.d (.int .u64)], [], fun x y => g x.1⟩
abbrev G : Type := T Int
def ct (g : G) : Ct := mkCt 0 [] [A g] e
section
variable {β : Type} (g139 : Int → Option Nat)
noncomputable abbrev env : FEnv := mkEnv prog f133 [(139, math_Float64frombits.ct g139)] 0 [] []
def c (ret : Int → Option β) (a0 : Int) : Option β := ((g139 a0).bind fun r0 => (bif ((Ieee.Format.order (FloatKind.format FloatKind.f64) r0 r0) != (Option.some Ordering.eq)) then (ret ((9221120237041090560 : Int))) else (ret (a0))))
variable {g139}
theorem ev : EvA (env g139) [] [0] e (A (c g139 some)) := fun x y => Eq.trans (b := (A (c g139 fun r => some (e r))).G x y) (by kernel_rfl) (by simp only [A, c, bo, so, oa, os, on, ofs])
end
def f (k : Nat) (a0 : Int) : Option Int := c (math_Float64frombits.f k) some a0
noncomputable abbrev E (k : Nat) : FEnv := env (math_Float64frombits.f k) 
theorem hE (k : Nat) : EnvOK (E k).toEnv := ctsOK (Lc (math_Float64frombits.ok k) L0)
theorem ok (k : Nat) : CtOK prog 133 (ct (f k)) := fn_ok func133 rfl (by decide) (hE k) L0 (Lc ev L0)
end reals_Canon
namespace utf_first
abbrev R : Type := Int × Int × Int × Int
def e (r : R) : Res := ⟨.tup [(.one (.d (.int .i64) r.1)), (.one (.d (.int .i64) r.2.1)), (.one (.d (.int .u8) r.2.2.1)), (.one (.d (.int .u8) r.2.2.2))], []⟩
abbrev T (δ : Type) : Type := Int → Option δ
abbrev A {δ : Type} (g : T δ) : Arm δ := ⟨[.d (.int .u8)], [], fun x y => g x.1⟩
abbrev G : Type := T R
def ct (g : G) : Ct := mkCt 0 [] [A g] e
abbrev S0 (δ : Type) : Type := Int → Bool → Option δ
abbrev A_0 {δ : Type} (s : S0 δ) : Arm δ := ⟨[.d (.int .u8), .d .bool], [], fun x y => s x.1 x.2.1⟩
def sg0 (s : S0 R) : Seg := mkSg [1, 3, 1, 4, 0, 1] [] [0, 11] [A_0 s] e
section
variable {β : Type} (s0 : S0 R)
noncomputable abbrev env : FEnv := mkEnv prog f144 [] 0 [] [sg0 s0]
def c (ret : R → Option β) (a0 : Int) : Option β := (bif (decide (a0 < (128 : Int))) then (ret ((1 : Int), (IntKind.wrap .i64 a0), (0 : Int), (0 : Int))) else (bif (decide (a0 < (194 : Int))) then ((s0 a0 true).bind ret) else ((s0 a0 (decide (a0 > (244 : Int)))).bind ret)))
def s0c (ret : R → Option β) (x0 : Int) (x1 : Bool) : Option β := (bif x1 then (ret ((0 : Int), (0 : Int), (0 : Int), (0 : Int))) else (bif (decide (x0 < (224 : Int))) then (ret ((2 : Int), (IntKind.wrap .i64 (IntKind.wrap .u8 ((BitVec.toNat ((BitVec.ofInt (8 : Nat) x0) &&& (BitVec.ofInt (8 : Nat) (31 : Int)))) : Int))), (128 : Int), (191 : Int))) else (bif (x0 == (224 : Int)) then (ret ((3 : Int), (0 : Int), (160 : Int), (191 : Int))) else (bif (x0 == (237 : Int)) then (ret ((3 : Int), (IntKind.wrap .i64 (IntKind.wrap .u8 ((BitVec.toNat ((BitVec.ofInt (8 : Nat) x0) &&& (BitVec.ofInt (8 : Nat) (15 : Int)))) : Int))), (128 : Int), (159 : Int))) else (bif (decide (x0 < (240 : Int))) then (ret ((3 : Int), (IntKind.wrap .i64 (IntKind.wrap .u8 ((BitVec.toNat ((BitVec.ofInt (8 : Nat) x0) &&& (BitVec.ofInt (8 : Nat) (15 : Int)))) : Int))), (128 : Int), (191 : Int))) else (bif (x0 == (240 : Int)) then (ret ((4 : Int), (0 : Int), (144 : Int), (191 : Int))) else (bif (x0 == (244 : Int)) then (ret ((4 : Int), (4 : Int), (128 : Int), (143 : Int))) else (ret ((4 : Int), (IntKind.wrap .i64 (IntKind.wrap .u8 ((BitVec.toNat ((BitVec.ofInt (8 : Nat) x0) &&& (BitVec.ofInt (8 : Nat) (7 : Int)))) : Int))), (128 : Int), (191 : Int))))))))))
variable {s0}
theorem ev : EvA (env s0) [] [0] e (A (c s0 some)) := fun x y => Eq.trans (b := (A (c s0 fun r => some (e r))).G x y) (by kernel_rfl) (by simp only [A, c, bo, so, oa, os, on, ofs])
theorem s0_ev : EvA (env s0) [1, 3, 1, 4, 0, 1] [0, 11] e (A_0 (s0c some)) := fun x y => Eq.trans (b := (A_0 (s0c fun r => some (e r))).G x y) (by kernel_rfl) (by simp only [A_0, s0c, bo, so, oa, os, on, ofs])
end
def s0 : Nat → S0 R
 | 0, _, _ => none
 | k + 1, x0, x1 => s0c  some x0 x1
def f (k : Nat) (a0 : Int) : Option R := c (s0 k) some a0
noncomputable abbrev E (k : Nat) : FEnv := env  (s0 k)
theorem hE (k : Nat) : EnvOK (E k).toEnv := ctsOK L0
theorem sk : ∀ k, ∀ s ∈ [sg0 (s0 k)], SegB prog f144 0 s
 | 0 => (Lc (sn (Lc (fun _ _ => rfl) L0)) L0)
 | k + 1 => (Lc (sg_ok (hE k) (sk k) (Lc s0_ev L0)) L0)
theorem ok (k : Nat) : CtOK prog 144 (ct (f k)) := fn_ok func144 rfl (by decide) (hE k) (sk k) (Lc ev L0)
end utf_first
namespace utf_Next
abbrev R : Type := Int × Int × Int
def e (r : R) : Res := ⟨.tup [(.one (.d (.int .i64) r.1)), (.one (.d (.int .i64) r.2.1)), (.one (.d (.int .i64) r.2.2))], []⟩
abbrev T (δ : Type) : Type := ByteArray → Option δ
abbrev A {δ : Type} (g : T δ) : Arm δ := ⟨[.d .str], [], fun x y => g x.1⟩
abbrev G : Type := T R
def ct (g : G) : Ct := mkCt 0 [] [A g] e
abbrev S0 (δ : Type) : Type := ByteArray → Int → Int → Int → Int → Int → Int → Option δ
abbrev A_0 {δ : Type} (s : S0 δ) : Arm δ := ⟨[.d .str, .d (.int .i64), .d (.int .i64), .d (.int .u8), .d (.int .u8), .d (.int .i64), .d (.int .i64)], [], fun x y => s x.1 x.2.1 x.2.2.1 x.2.2.2.1 x.2.2.2.2.1 x.2.2.2.2.2.1 x.2.2.2.2.2.2.1⟩
abbrev S1 (δ : Type) : Type := ByteArray → Int → Int → Int → Int → Bool → Option δ
abbrev A_1 {δ : Type} (s : S1 δ) : Arm δ := ⟨[.d .str, .d (.int .i64), .d (.int .i64), .d (.int .i64), .d (.int .i64), .d .bool], [], fun x y => s x.1 x.2.1 x.2.2.1 x.2.2.2.1 x.2.2.2.2.1 x.2.2.2.2.2.1⟩
abbrev S2 (δ : Type) : Type := ByteArray → Int → Int → Int → Int → Option δ
abbrev A_2 {δ : Type} (s : S2 δ) : Arm δ := ⟨[.d .str, .d (.int .i64), .d (.int .i64), .d (.int .i64), .d (.int .i64)], [], fun x y => s x.1 x.2.1 x.2.2.1 x.2.2.2.1 x.2.2.2.2.1⟩
abbrev S3 (δ : Type) : Type := ByteArray → Int → Int → Int → Int → Int → Int → Option δ
abbrev A_3 {δ : Type} (s : S3 δ) : Arm δ := ⟨[.d .str, .d (.int .i64), .d (.int .i64), .d (.int .u8), .d (.int .u8), .d (.int .i64), .d (.int .i64)], [], fun x y => s x.1 x.2.1 x.2.2.1 x.2.2.2.1 x.2.2.2.2.1 x.2.2.2.2.2.1 x.2.2.2.2.2.2.1⟩
def sg0 (s : S0 R) : Seg := mkSg [4, 1, 0, 1, 1, 1, 1, 1, 6, 1] [] [0, 5, 6, 7, 8, 9, 10] [A_0 s] e
def sg1 (s : S1 R) : Seg := mkSg [1, 3, 1, 4, 0, 4, 0, 1, 5, 4, 1, 0, 1, 1, 1, 1, 1, 6, 1] [] [0, 5, 6, 9, 10, 33] [A_1 s] e
def sg2 (s : S2 R) : Seg := mkSg [1, 4, 0, 1, 5, 4, 1, 0, 1, 1, 1, 1, 1, 6, 1] [] [0, 5, 6, 9, 10] [A_2 s] e
def sg3 (s : S3 R) : Seg := mkSg [1, 1, 5, 4, 1, 0, 1, 1, 1, 1, 1, 6, 1] [] [0, 5, 6, 7, 8, 9, 10] [A_3 s] e
section
variable {β : Type} (g144 : utf_first.G) (s0 : S0 R) (s1 : S1 R) (s2 : S2 R) (s3 : S3 R)
noncomputable abbrev env : FEnv := mkEnv prog f143 [(144, utf_first.ct g144)] 0 [] [sg0 s0, sg1 s1, sg2 s2, sg3 s3]
def c (ret : R → Option β) (a0 : ByteArray) : Option β := (bif (a0.toList == (ByteArray.toList (ByteArray.mk (List.toArray [])))) then (ret ((0 : Int), (0 : Int), (3 : Int))) else (bif (true && (decide ((0 : Int) < (a0.size : Int)))) then ((g144 (bt a0 (0 : Int))).bind fun r0 => (bif (r0.1 == (0 : Int)) then (ret ((0 : Int), (0 : Int), (7 : Int))) else ((s0 a0 r0.1 r0.2.1 r0.2.2.1 r0.2.2.2 (0 : Int) (1 : Int)).bind ret))) else none))
def s0c (ret : R → Option β) (x0 : ByteArray) (x1 x2 : Int) (x3 x4 : Int) (x5 x6 : Int) : Option β := (bif (decide (x6 < x1)) then (bif (decide (x6 ≥ (x0.size : Int))) then (ret ((0 : Int), (0 : Int), (3 : Int))) else (bif ((decide ((0 : Int) ≤ x6)) && (decide (x6 < (x0.size : Int)))) then (bif (decide ((bt x0 x6) < x3)) then ((s1 x0 x1 x2 x5 x6 true).bind ret) else (bif ((decide ((0 : Int) ≤ x6)) && (decide (x6 < (x0.size : Int)))) then ((s1 x0 x1 x2 x5 x6 (decide ((bt x0 x6) > x4))).bind ret) else none)) else none)) else (bif (x5 != (0 : Int)) then (ret ((0 : Int), (0 : Int), x5)) else (ret (x2, x1, (0 : Int)))))
def s1c (ret : R → Option β) (x0 : ByteArray) (x1 x2 : Int) (x3 x4 : Int) (x5 : Bool) : Option β := (bif x5 then (ret ((0 : Int), (0 : Int), (7 : Int))) else ((s2 x0 x1 x2 x3 x4).bind ret))
def s2c (ret : R → Option β) (x0 : ByteArray) (x1 x2 : Int) (x3 x4 : Int) : Option β := (bif ((decide ((0 : Int) ≤ x4)) && (decide (x4 < (x0.size : Int)))) then ((s3 x0 x1 (IntKind.wrap .i64 ((BitVec.toNat ((BitVec.ofInt (64 : Nat) (IntKind.wrap .i64 (x2 * (64 : Int)))) ||| (BitVec.ofInt (64 : Nat) (IntKind.wrap .i64 (IntKind.wrap .u8 ((BitVec.toNat ((BitVec.ofInt (8 : Nat) (bt x0 x4)) &&& (BitVec.ofInt (8 : Nat) (63 : Int)))) : Int)))))) : Int)) (128 : Int) (191 : Int) x3 x4).bind ret) else none)
def s3c (ret : R → Option β) (x0 : ByteArray) (x1 x2 : Int) (x3 x4 : Int) (x5 x6 : Int) : Option β := ((s0 x0 x1 x2 x3 x4 x5 (IntKind.wrap .i64 (x6 + (1 : Int)))).bind ret)
variable {g144} {s0} {s1} {s2} {s3}
theorem ev : EvA (env g144 s0 s1 s2 s3) [] [0] e (A (c g144 s0 some)) := fun x y => Eq.trans (b := (A (c g144 s0 fun r => some (e r))).G x y) (by kernel_rfl) (by simp only [A, c, bo, so, oa, os, on, ofs])
theorem s0_ev : EvA (env g144 s0 s1 s2 s3) [4, 1, 0, 1, 1, 1, 1, 1, 6, 1] [0, 5, 6, 7, 8, 9, 10] e (A_0 (s0c s1 some)) := fun x y => Eq.trans (b := (A_0 (s0c s1 fun r => some (e r))).G x y) (by kernel_rfl) (by simp only [A_0, s0c, bo, so, oa, os, on, ofs])
theorem s1_ev : EvA (env g144 s0 s1 s2 s3) [1, 3, 1, 4, 0, 4, 0, 1, 5, 4, 1, 0, 1, 1, 1, 1, 1, 6, 1] [0, 5, 6, 9, 10, 33] e (A_1 (s1c s2 some)) := fun x y => Eq.trans (b := (A_1 (s1c s2 fun r => some (e r))).G x y) (by kernel_rfl) (by simp only [A_1, s1c, bo, so, oa, os, on, ofs])
theorem s2_ev : EvA (env g144 s0 s1 s2 s3) [1, 4, 0, 1, 5, 4, 1, 0, 1, 1, 1, 1, 1, 6, 1] [0, 5, 6, 9, 10] e (A_2 (s2c s3 some)) := fun x y => Eq.trans (b := (A_2 (s2c s3 fun r => some (e r))).G x y) (by kernel_rfl) (by simp only [A_2, s2c, bo, so, oa, os, on, ofs])
theorem s3_ev : EvA (env g144 s0 s1 s2 s3) [1, 1, 5, 4, 1, 0, 1, 1, 1, 1, 1, 6, 1] [0, 5, 6, 7, 8, 9, 10] e (A_3 (s3c s0 some)) := fun x y => Eq.trans (b := (A_3 (s3c s0 fun r => some (e r))).G x y) (by kernel_rfl) (by simp only [A_3, s3c, bo, so, oa, os, on, ofs])
end
mutual
def s0 : Nat → S0 R
 | 0, _, _, _, _, _, _, _ => none
 | k + 1, x0, x1, x2, x3, x4, x5, x6 => s0c (s1 k) some x0 x1 x2 x3 x4 x5 x6
def s1 : Nat → S1 R
 | 0, _, _, _, _, _, _ => none
 | k + 1, x0, x1, x2, x3, x4, x5 => s1c (s2 k) some x0 x1 x2 x3 x4 x5
def s2 : Nat → S2 R
 | 0, _, _, _, _, _ => none
 | k + 1, x0, x1, x2, x3, x4 => s2c (s3 k) some x0 x1 x2 x3 x4
def s3 : Nat → S3 R
 | 0, _, _, _, _, _, _, _ => none
 | k + 1, x0, x1, x2, x3, x4, x5, x6 => s3c (s0 k) some x0 x1 x2 x3 x4 x5 x6
end
def f (k : Nat) (a0 : ByteArray) : Option R := c (utf_first.f k) (s0 k) some a0
noncomputable abbrev E (k : Nat) : FEnv := env (utf_first.f k) (s0 k) (s1 k) (s2 k) (s3 k)
theorem hE (k : Nat) : EnvOK (E k).toEnv := ctsOK (Lc (utf_first.ok k) L0)
theorem sk : ∀ k, ∀ s ∈ [sg0 (s0 k), sg1 (s1 k), sg2 (s2 k), sg3 (s3 k)], SegB prog f143 0 s
 | 0 => (Lc (sn (Lc (fun _ _ => rfl) L0)) (Lc (sn (Lc (fun _ _ => rfl) L0)) (Lc (sn (Lc (fun _ _ => rfl) L0)) (Lc (sn (Lc (fun _ _ => rfl) L0)) L0))))
 | k + 1 => (Lc (sg_ok (hE k) (sk k) (Lc s0_ev L0)) (Lc (sg_ok (hE k) (sk k) (Lc s1_ev L0)) (Lc (sg_ok (hE k) (sk k) (Lc s2_ev L0)) (Lc (sg_ok (hE k) (sk k) (Lc s3_ev L0)) L0))))
theorem ok (k : Nat) : CtOK prog 143 (ct (f k)) := fn_ok func143 rfl (by decide) (hE k) (sk k) (Lc ev L0)
end utf_Next
namespace utf_Count
def e (r : Int) : Res := ⟨.v (.one (.d (.int .i64) r)), []⟩
abbrev T (δ : Type) : Type := ByteArray → Option δ
abbrev A {δ : Type} (g : T δ) : Arm δ := ⟨[.d .str], [], fun x y => g x.1⟩
abbrev G : Type := T Int
def ct (g : G) : Ct := mkCt 0 [] [A g] e
abbrev S0 (δ : Type) : Type := ByteArray → Int → Option δ
abbrev A_0 {δ : Type} (s : S0 δ) : Arm δ := ⟨[.d .str, .d (.int .i64)], [], fun x y => s x.1 x.2.1⟩
def sg0 (s : S0 Int) : Seg := mkSg [4, 0, 1, 1] [] [0, 3] [A_0 s] e
section
variable {β : Type} (g143 : utf_Next.G) (s0 : S0 Int)
noncomputable abbrev env : FEnv := mkEnv prog f140 [(143, utf_Next.ct g143)] 0 [] [sg0 s0]
def c (ret : Int → Option β) (a0 : ByteArray) : Option β := ((s0 a0 (0 : Int)).bind ret)
def s0c (ret : Int → Option β) (x0 : ByteArray) (x1 : Int) : Option β := (bif (!(x0.toList == (ByteArray.toList (ByteArray.mk (List.toArray []))))) then ((g143 x0).bind fun r0 => (bif (r0.2.2 != (0 : Int)) then (ret ((-1 : Int))) else (bif (((decide ((0 : Int) ≤ r0.2.1)) && (decide (r0.2.1 ≤ (x0.size : Int)))) && (decide ((x0.size : Int) ≤ (x0.size : Int)))) then ((s0 (ByteArray.extract x0 (Int.toNat r0.2.1) (Int.toNat (x0.size : Int))) (IntKind.wrap .i64 (x1 + (1 : Int)))).bind ret) else none))) else (ret (x1)))
variable {g143} {s0}
theorem ev : EvA (env g143 s0) [] [0] e (A (c s0 some)) := fun x y => Eq.trans (b := (A (c s0 fun r => some (e r))).G x y) (by kernel_rfl) (by simp only [A, c, bo, so, oa, os, on, ofs])
theorem s0_ev : EvA (env g143 s0) [4, 0, 1, 1] [0, 3] e (A_0 (s0c g143 s0 some)) := fun x y => Eq.trans (b := (A_0 (s0c g143 s0 fun r => some (e r))).G x y) (by kernel_rfl) (by simp only [A_0, s0c, bo, so, oa, os, on, ofs])
end
def s0 : Nat → S0 Int
 | 0, _, _ => none
 | k + 1, x0, x1 => s0c (utf_Next.f k) (s0 k) some x0 x1
def f (k : Nat) (a0 : ByteArray) : Option Int := c (s0 k) some a0
noncomputable abbrev E (k : Nat) : FEnv := env (utf_Next.f k) (s0 k)
theorem hE (k : Nat) : EnvOK (E k).toEnv := ctsOK (Lc (utf_Next.ok k) L0)
theorem sk : ∀ k, ∀ s ∈ [sg0 (s0 k)], SegB prog f140 0 s
 | 0 => (Lc (sn (Lc (fun _ _ => rfl) L0)) L0)
 | k + 1 => (Lc (sg_ok (hE k) (sk k) (Lc s0_ev L0)) L0)
theorem ok (k : Nat) : CtOK prog 140 (ct (f k)) := fn_ok func140 rfl (by decide) (hE k) (sk k) (Lc ev L0)
end utf_Count
namespace utf_Valid
def e (r : Bool) : Res := ⟨.v (.one (.d .bool r)), []⟩
abbrev T (δ : Type) : Type := ByteArray → Option δ
abbrev A {δ : Type} (g : T δ) : Arm δ := ⟨[.d .str], [], fun x y => g x.1⟩
abbrev G : Type := T Bool
def ct (g : G) : Ct := mkCt 0 [] [A g] e
section
variable {β : Type} (g140 : utf_Count.G)
noncomputable abbrev env : FEnv := mkEnv prog f134 [(140, utf_Count.ct g140)] 0 [] []
def c (ret : Bool → Option β) (a0 : ByteArray) : Option β := ((g140 a0).bind fun r0 => (ret ((decide (r0 ≥ (0 : Int))))))
variable {g140}
theorem ev : EvA (env g140) [] [0] e (A (c g140 some)) := fun x y => Eq.trans (b := (A (c g140 fun r => some (e r))).G x y) (by kernel_rfl) (by simp only [A, c, bo, so, oa, os, on, ofs])
end
def f (k : Nat) (a0 : ByteArray) : Option Bool := c (utf_Count.f k) some a0
noncomputable abbrev E (k : Nat) : FEnv := env (utf_Count.f k) 
theorem hE (k : Nat) : EnvOK (E k).toEnv := ctsOK (Lc (utf_Count.ok k) L0)
theorem ok (k : Nat) : CtOK prog 134 (ct (f k)) := fn_ok func134 rfl (by decide) (hE k) L0 (Lc ev L0)
end utf_Valid
namespace values_Check
def e (r : Int) : Res := ⟨.v (.one (.d (.int .i64) r)), []⟩
abbrev T (δ : Type) : Type := Int → Int → Int → ByteArray → Option δ
abbrev A {δ : Type} (g : T δ) : Arm δ := ⟨[.s T_api_Value], [], fun x y => g x.1.1.1 x.1.1.2.1 x.1.1.2.2.1 x.1.1.2.2.2.1⟩
abbrev G : Type := T Int
def ct (g : G) : Ct := mkCt 0 [] [A g] e
abbrev S0 (δ : Type) : Type := Bool → Int → Int → Int → ByteArray → Option δ
abbrev A_0 {δ : Type} (s : S0 δ) : Arm δ := ⟨[.k (.ptr 0 0), .d .bool], [.box [.g T_api_Value]], fun x y => s x.2.1 y.1.1.1 y.1.1.2.1 y.1.1.2.2.1 y.1.1.2.2.2.1⟩
abbrev S1 (δ : Type) : Type := Bool → Int → Int → Int → ByteArray → Option δ
abbrev A_1 {δ : Type} (s : S1 δ) : Arm δ := ⟨[.k (.ptr 0 0), .d .bool], [.box [.g T_api_Value]], fun x y => s x.2.1 y.1.1.1 y.1.1.2.1 y.1.1.2.2.1 y.1.1.2.2.2.1⟩
def sg0 (s : S0 Int) : Seg := mkSg [1, 4, 0, 1] [] [1, 3] [A_0 s] e
def sg1 (s : S1 Int) : Seg := mkSg [1, 3, 1, 3, 1, 4, 0, 1] [] [1, 17] [A_1 s] e
section
variable {β : Type} (g132 : values_only.G) (g133 : reals_Canon.G) (g134 : utf_Valid.G) (s0 : S0 Int) (s1 : S1 Int)
noncomputable abbrev env : FEnv := mkEnv prog f119 [(132, values_only.ct g132), (133, reals_Canon.ct g133), (134, utf_Valid.ct g134)] 0 [] [sg0 s0, sg1 s1]
def c (ret : Int → Option β) (a0 a1 a2 : Int) (a3 : ByteArray) : Option β := (bif (decide (a0 < (0 : Int))) then ((s0 true a0 a1 a2 a3).bind ret) else ((s0 (decide (a0 ≥ (6 : Int))) a0 a1 a2 a3).bind ret))
def s0c (ret : Int → Option β) (x0 : Bool) (x1 x2 x3 : Int) (x4 : ByteArray) : Option β := (bif x0 then (ret ((5 : Int))) else ((g132 x1 x2 x3 x4).bind fun r0 => (bif (!((r0.1 == x1) && ((r0.2.1 == x2) && ((r0.2.2.1 == x3) && ((r0.2.2.2.toList == x4.toList) && true))))) then (ret ((4 : Int))) else (bif (x1 == (1 : Int)) then (bif (x2 != (0 : Int)) then ((s1 (x2 != (1 : Int)) x1 x2 x3 x4).bind ret) else ((s1 false x1 x2 x3 x4).bind ret)) else ((s1 false x1 x2 x3 x4).bind ret)))))
def s1c (ret : Int → Option β) (x0 : Bool) (x1 x2 x3 : Int) (x4 : ByteArray) : Option β := (bif x0 then (ret ((6 : Int))) else ((g133 x3).bind fun r0 => (bif (r0 != x3) then (ret ((4 : Int))) else (bif (decide ((x4.size : Int) > (64 : Int))) then (ret ((2 : Int))) else (bif (x1 == (5 : Int)) then ((g134 x4).bind fun r1 => (bif (!r1) then (ret ((7 : Int))) else (ret ((0 : Int))))) else (ret ((0 : Int))))))))
variable {g132} {g133} {g134} {s0} {s1}
theorem ev : EvA (env g132 g133 g134 s0 s1) [] [0] e (A (c s0 some)) := fun x y => Eq.trans (b := (A (c s0 fun r => some (e r))).G x y) (by kernel_rfl) (by simp only [A, c, bo, so, oa, os, on, ofs])
theorem s0_ev : EvA (env g132 g133 g134 s0 s1) [1, 4, 0, 1] [1, 3] e (A_0 (s0c g132 s1 some)) := fun x y => Eq.trans (b := (A_0 (s0c g132 s1 fun r => some (e r))).G x y) (by kernel_rfl) (by simp only [A_0, s0c, bo, so, oa, os, on, ofs])
theorem s1_ev : EvA (env g132 g133 g134 s0 s1) [1, 3, 1, 3, 1, 4, 0, 1] [1, 17] e (A_1 (s1c g133 g134 some)) := fun x y => Eq.trans (b := (A_1 (s1c g133 g134 fun r => some (e r))).G x y) (by kernel_rfl) (by simp only [A_1, s1c, bo, so, oa, os, on, ofs])
end
mutual
def s0 : Nat → S0 Int
 | 0, _, _, _, _, _ => none
 | k + 1, x0, x1, x2, x3, x4 => s0c (values_only.f k) (s1 k) some x0 x1 x2 x3 x4
def s1 : Nat → S1 Int
 | 0, _, _, _, _, _ => none
 | k + 1, x0, x1, x2, x3, x4 => s1c (reals_Canon.f k) (utf_Valid.f k) some x0 x1 x2 x3 x4
end
def f (k : Nat) (a0 a1 a2 : Int) (a3 : ByteArray) : Option Int := c (s0 k) some a0 a1 a2 a3
noncomputable abbrev E (k : Nat) : FEnv := env (values_only.f k) (reals_Canon.f k) (utf_Valid.f k) (s0 k) (s1 k)
theorem hE (k : Nat) : EnvOK (E k).toEnv := ctsOK (Lc (values_only.ok k) (Lc (reals_Canon.ok k) (Lc (utf_Valid.ok k) L0)))
theorem sk : ∀ k, ∀ s ∈ [sg0 (s0 k), sg1 (s1 k)], SegB prog f119 0 s
 | 0 => (Lc (sn (Lc (fun _ _ => rfl) L0)) (Lc (sn (Lc (fun _ _ => rfl) L0)) L0))
 | k + 1 => (Lc (sg_ok (hE k) (sk k) (Lc s0_ev L0)) (Lc (sg_ok (hE k) (sk k) (Lc s1_ev L0)) L0))
theorem ok (k : Nat) : CtOK prog 119 (ct (f k)) := fn_ok func119 rfl (by decide) (hE k) (sk k) (Lc ev L0)
end values_Check
namespace words_Quote
def e (r : ByteArray) : Res := ⟨.v (.one (.d .str r)), []⟩
abbrev T (δ : Type) : Type := ByteArray → Option δ
abbrev A {δ : Type} (g : T δ) : Arm δ := ⟨[.d .str], [], fun x y => g x.1⟩
abbrev G : Type := T ByteArray
def ct (g : G) : Ct := mkCt 0 [] [A g] e
abbrev S0 (δ : Type) : Type := (List Int) → Int → Int → (List Int) → Option δ
abbrev A_0 {δ : Type} (s : S0 δ) : Arm δ := ⟨[.k (.own 0), .d (.sl (.int .u8)), .d (.int .i64), .d (.int .i64)], [.own (.int .u8) false], fun x y => s x.2.1 x.2.2.1 x.2.2.2.1 y.1⟩
abbrev S1 (δ : Type) : Type := Int → (List Int) → Int → Int → Bool → (List Int) → Option δ
abbrev A_1 {δ : Type} (s : S1 δ) : Arm δ := ⟨[.k (.own 0), .d (.int .u8), .d (.sl (.int .u8)), .d (.int .i64), .d (.int .i64), .d .bool], [.own (.int .u8) false], fun x y => s x.2.1 x.2.2.1 x.2.2.2.1 x.2.2.2.2.1 x.2.2.2.2.2.1 y.1⟩
abbrev S2 (δ : Type) : Type := Int → (List Int) → Int → Int → Bool → (List Int) → Option δ
abbrev A_2 {δ : Type} (s : S2 δ) : Arm δ := ⟨[.k (.own 0), .d (.int .u8), .d (.sl (.int .u8)), .d (.int .i64), .d (.int .i64), .d .bool], [.own (.int .u8) false], fun x y => s x.2.1 x.2.2.1 x.2.2.2.1 x.2.2.2.2.1 x.2.2.2.2.2.1 y.1⟩
abbrev S3 (δ : Type) : Type := (List Int) → Int → Int → (List Int) → Option δ
abbrev A_3 {δ : Type} (s : S3 δ) : Arm δ := ⟨[.k (.own 0), .d (.sl (.int .u8)), .d (.int .i64), .d (.int .i64)], [.own (.int .u8) false], fun x y => s x.2.1 x.2.2.1 x.2.2.2.1 y.1⟩
def sg0 (s : S0 ByteArray) : Seg := mkSg [4, 1, 0, 1, 1] [.own 3 (.int .u8)] [3, 8, 9, 10] [A_0 s] e
def sg1 (s : S1 ByteArray) : Seg := mkSg [1, 4, 1, 4, 0, 1, 1, 5, 4, 1, 0, 1, 1] [] [3, 5, 8, 9, 10, 18] [A_1 s] e
def sg2 (s : S2 ByteArray) : Seg := mkSg [1, 3, 1, 4, 1, 4, 0, 1, 1, 5, 4, 1, 0, 1, 1] [] [3, 5, 8, 9, 10, 27] [A_2 s] e
def sg3 (s : S3 ByteArray) : Seg := mkSg [1, 1, 1, 5, 4, 1, 0, 1, 1] [] [3, 8, 9, 10] [A_3 s] e
section
variable {β : Type} (s0 : S0 ByteArray) (s1 : S1 ByteArray) (s2 : S2 ByteArray) (s3 : S3 ByteArray)
noncomputable abbrev env : FEnv := mkEnv prog f120 [] 0 [] [sg0 s0, sg1 s1, sg2 s2, sg3 s3]
def c (ret : ByteArray → Option β) (a0 : ByteArray) : Option β := ((s0 (List.map (fun b => ((UInt8.toNat b) : Int)) (Array.toList (ByteArray.data a0))) ((List.length (List.map (fun b => ((UInt8.toNat b) : Int)) (Array.toList (ByteArray.data a0)))) : Int) (0 : Int) [(34 : Int)]).bind ret)
def s0c (ret : ByteArray → Option β) (x0 : List Int) (x1 x2 : Int) (x3 : List Int) : Option β := (bif (decide (x2 < x1)) then (bif ((decide ((0 : Int) ≤ x2)) && (decide (x2 < (x0.length : Int)))) then (bif ((elem (Ty.int IntKind.u8) x0 x2) == (34 : Int)) then ((s1 (elem (Ty.int IntKind.u8) x0 x2) x0 x1 x2 ((elem (Ty.int IntKind.u8) x0 x2) == (34 : Int)) x3).bind ret) else ((s1 (elem (Ty.int IntKind.u8) x0 x2) x0 x1 x2 ((elem (Ty.int IntKind.u8) x0 x2) == (92 : Int)) x3).bind ret)) else none) else (bif (decide (((x3.length + (1 : Nat)) * (1 : Nat)) ≤ (35184372088832 : Nat))) then (ret ((ByteArray.mk (List.toArray (List.map (fun n => (UInt8.ofNat (Int.toNat n))) (x3 ++ [(34 : Int)])))))) else none))
def s1c (ret : ByteArray → Option β) (x0 : Int) (x1 : List Int) (x2 x3 : Int) (x4 : Bool) (x5 : List Int) : Option β := (bif x4 then (bif (decide (((x5.length + (2 : Nat)) * (1 : Nat)) ≤ (35184372088832 : Nat))) then ((s3 x1 x2 x3 (x5 ++ [(92 : Int), x0])).bind ret) else none) else (bif (decide (x0 < (32 : Int))) then ((s2 x0 x1 x2 x3 (decide (x0 < (32 : Int))) x5).bind ret) else ((s2 x0 x1 x2 x3 (decide (x0 > (126 : Int))) x5).bind ret)))
def s2c (ret : ByteArray → Option β) (x0 : Int) (x1 : List Int) (x2 x3 : Int) (x4 : Bool) (x5 : List Int) : Option β := (bif x4 then (bif ((decide ((0 : Int) ≤ (Int.fdiv x0 (16 : Int)))) && (decide ((Int.fdiv x0 (16 : Int)) < (16 : Int)))) then (bif (true && (decide ((IntKind.wrap .u8 ((BitVec.toNat ((BitVec.ofInt (8 : Nat) x0) &&& (BitVec.ofInt (8 : Nat) (15 : Int)))) : Int)) < (16 : Int)))) then (bif (decide (((x5.length + (4 : Nat)) * (1 : Nat)) ≤ (35184372088832 : Nat))) then ((s3 x1 x2 x3 (x5 ++ [(92 : Int), (120 : Int), (bt (ByteArray.mk (List.toArray [48, 49, 50, 51, 52, 53, 54, 55, 56, 57, 97, 98, 99, 100, 101, 102])) (Int.fdiv x0 (16 : Int))), (bt (ByteArray.mk (List.toArray [48, 49, 50, 51, 52, 53, 54, 55, 56, 57, 97, 98, 99, 100, 101, 102])) (IntKind.wrap .u8 ((BitVec.toNat ((BitVec.ofInt (8 : Nat) x0) &&& (BitVec.ofInt (8 : Nat) (15 : Int)))) : Int)))])).bind ret) else none) else none) else none) else (bif (decide (((x5.length + (1 : Nat)) * (1 : Nat)) ≤ (35184372088832 : Nat))) then ((s3 x1 x2 x3 (x5 ++ [x0])).bind ret) else none))
def s3c (ret : ByteArray → Option β) (x0 : List Int) (x1 x2 : Int) (x3 : List Int) : Option β := ((s0 x0 x1 (IntKind.wrap .i64 (x2 + (1 : Int))) x3).bind ret)
variable {s0} {s1} {s2} {s3}
theorem ev : EvA (env s0 s1 s2 s3) [] [0] e (A (c s0 some)) := fun x y => Eq.trans (b := (A (c s0 fun r => some (e r))).G x y) (by kernel_rfl) (by simp only [A, c, bo, so, oa, os, on, ofs])
theorem s0_ev : EvA (env s0 s1 s2 s3) [4, 1, 0, 1, 1] [3, 8, 9, 10] e (A_0 (s0c s1 some)) := fun x y => Eq.trans (b := (A_0 (s0c s1 fun r => some (e r))).G x y) (by kernel_rfl) (by simp only [A_0, s0c, bo, so, oa, os, on, ofs])
theorem s1_ev : EvA (env s0 s1 s2 s3) [1, 4, 1, 4, 0, 1, 1, 5, 4, 1, 0, 1, 1] [3, 5, 8, 9, 10, 18] e (A_1 (s1c s2 s3 some)) := fun x y => Eq.trans (b := (A_1 (s1c s2 s3 fun r => some (e r))).G x y) (by kernel_rfl) (by simp only [A_1, s1c, bo, so, oa, os, on, ofs])
theorem s2_ev : EvA (env s0 s1 s2 s3) [1, 3, 1, 4, 1, 4, 0, 1, 1, 5, 4, 1, 0, 1, 1] [3, 5, 8, 9, 10, 27] e (A_2 (s2c s3 some)) := fun x y => Eq.trans (b := (A_2 (s2c s3 fun r => some (e r))).G x y) (by kernel_rfl) (by simp only [A_2, s2c, bo, so, oa, os, on, ofs])
theorem s3_ev : EvA (env s0 s1 s2 s3) [1, 1, 1, 5, 4, 1, 0, 1, 1] [3, 8, 9, 10] e (A_3 (s3c s0 some)) := fun x y => Eq.trans (b := (A_3 (s3c s0 fun r => some (e r))).G x y) (by kernel_rfl) (by simp only [A_3, s3c, bo, so, oa, os, on, ofs])
end
mutual
def s0 : Nat → S0 ByteArray
 | 0, _, _, _, _ => none
 | k + 1, x0, x1, x2, x3 => s0c (s1 k) some x0 x1 x2 x3
def s1 : Nat → S1 ByteArray
 | 0, _, _, _, _, _, _ => none
 | k + 1, x0, x1, x2, x3, x4, x5 => s1c (s2 k) (s3 k) some x0 x1 x2 x3 x4 x5
def s2 : Nat → S2 ByteArray
 | 0, _, _, _, _, _, _ => none
 | k + 1, x0, x1, x2, x3, x4, x5 => s2c (s3 k) some x0 x1 x2 x3 x4 x5
def s3 : Nat → S3 ByteArray
 | 0, _, _, _, _ => none
 | k + 1, x0, x1, x2, x3 => s3c (s0 k) some x0 x1 x2 x3
end
def f (k : Nat) (a0 : ByteArray) : Option ByteArray := c (s0 k) some a0
noncomputable abbrev E (k : Nat) : FEnv := env  (s0 k) (s1 k) (s2 k) (s3 k)
theorem hE (k : Nat) : EnvOK (E k).toEnv := ctsOK L0
theorem sk : ∀ k, ∀ s ∈ [sg0 (s0 k), sg1 (s1 k), sg2 (s2 k), sg3 (s3 k)], SegB prog f120 0 s
 | 0 => (Lc (sn (Lc (fun _ _ => rfl) L0)) (Lc (sn (Lc (fun _ _ => rfl) L0)) (Lc (sn (Lc (fun _ _ => rfl) L0)) (Lc (sn (Lc (fun _ _ => rfl) L0)) L0))))
 | k + 1 => (Lc (sg_ok (hE k) (sk k) (Lc s0_ev L0)) (Lc (sg_ok (hE k) (sk k) (Lc s1_ev L0)) (Lc (sg_ok (hE k) (sk k) (Lc s2_ev L0)) (Lc (sg_ok (hE k) (sk k) (Lc s3_ev L0)) L0))))
theorem ok (k : Nat) : CtOK prog 120 (ct (f k)) := fn_ok func120 rfl (by decide) (hE k) (sk k) (Lc ev L0)
end words_Quote
namespace words_Show
abbrev R : Type := ByteArray × Int
def e (r : R) : Res := ⟨.tup [(.one (.d .str r.1)), (.one (.d (.int .i64) r.2))], []⟩
abbrev T (δ : Type) : Type := Int → Int → Int → ByteArray → Option δ
abbrev A {δ : Type} (g : T δ) : Arm δ := ⟨[.s T_api_Value], [], fun x y => g x.1.1.1 x.1.1.2.1 x.1.1.2.2.1 x.1.1.2.2.2.1⟩
abbrev G : Type := T R
def ct (g : G) : Ct := mkCt 0 [] [A g] e
abbrev S0 (δ : Type) : Type := Int → Int → Int → Int → ByteArray → (List Int) → Option δ
abbrev A_0 {δ : Type} (s : S0 δ) : Arm δ := ⟨[.k (.ptr 0 0), .k (.own 1), .d (.int .i64)], [.box [.g T_api_Value], .own (.int .u8) false], fun x y => s x.2.2.1 y.1.1.1 y.1.1.2.1 y.1.1.2.2.1 y.1.1.2.2.2.1 y.2.1⟩
def sg0 (s : S0 R) : Seg := mkSg [4, 1, 0, 1, 2, 1, 3, 1, 3, 1, 4, 1, 0, 1, 1] [.own 5 (.int .u8)] [1, 5, 6] [A_0 s] e
section
variable {β : Type} (g55 : convert_Digits.G) (g119 : values_Check.G) (g120 : words_Quote.G) (s0 : S0 R)
noncomputable abbrev env : FEnv := mkEnv prog f105 [(55, convert_Digits.ct g55), (119, values_Check.ct g119), (120, words_Quote.ct g120)] 0 [] [sg0 s0]
def c (ret : R → Option β) (a0 a1 a2 : Int) (a3 : ByteArray) : Option β := ((g119 a0 a1 a2 a3).bind fun r0 => (bif (r0 != (0 : Int)) then (ret ((ByteArray.mk (List.toArray [])), r0)) else (bif (a0 == (1 : Int)) then (bif ((decide ((0 : Int) ≤ a1)) && (decide (a1 < (2 : Int)))) then (ret ((bif (decide (a1 = (0 : Int))) then (ByteArray.mk (List.toArray [102, 97, 108, 115, 101])) else (ByteArray.mk (List.toArray [116, 114, 117, 101]))), (0 : Int))) else none) else (bif (a0 == (2 : Int)) then ((g55 a1).bind fun r1 => (ret (r1, (0 : Int)))) else (bif (a0 == (3 : Int)) then ((s0 (60 : Int) a0 a1 a2 a3 [(114 : Int)]).bind ret) else (bif (a0 == (4 : Int)) then ((g120 a3).bind fun r2 => (bif (true && (decide (r2.size ≤ (4611686018427387903 : Nat)))) then (ret (((ByteArray.mk (List.toArray [98])) ++ r2), (0 : Int))) else none)) else (bif (a0 == (5 : Int)) then ((g120 a3).bind fun r3 => (ret (r3, (0 : Int)))) else (ret ((ByteArray.mk (List.toArray [110, 117, 108, 108])), (0 : Int))))))))))
def s0c (ret : R → Option β) (x0 x1 : Int) (x2 x3 : Int) (x4 : ByteArray) (x5 : List Int) : Option β := (bif (decide (x0 ≥ (0 : Int))) then (bif (decide ((0 : Int) ≤ x0)) then (bif (true && (decide ((IntKind.wrap .u64 ((BitVec.toNat ((BitVec.ofInt (64 : Nat) (Int.fdiv x3 ((2 : Int) ^ (Min.min (Int.toNat x0) (64 : Nat))))) &&& (BitVec.ofInt (64 : Nat) (15 : Int)))) : Int)) < (16 : Int)))) then (bif (decide (((x5.length + (1 : Nat)) * (1 : Nat)) ≤ (35184372088832 : Nat))) then ((s0 (IntKind.wrap .i64 (x0 - (4 : Int))) x1 x2 x3 x4 (x5 ++ [(bt (ByteArray.mk (List.toArray [48, 49, 50, 51, 52, 53, 54, 55, 56, 57, 97, 98, 99, 100, 101, 102])) (IntKind.wrap .u64 ((BitVec.toNat ((BitVec.ofInt (64 : Nat) (Int.fdiv x3 ((2 : Int) ^ (Min.min (Int.toNat x0) (64 : Nat))))) &&& (BitVec.ofInt (64 : Nat) (15 : Int)))) : Int)))])).bind ret) else none) else none) else none) else (ret ((ByteArray.mk (List.toArray (List.map (fun n => (UInt8.ofNat (Int.toNat n))) x5))), (0 : Int))))
variable {g55} {g119} {g120} {s0}
theorem ev : EvA (env g55 g119 g120 s0) [] [0] e (A (c g55 g119 g120 s0 some)) := fun x y => Eq.trans (b := (A (c g55 g119 g120 s0 fun r => some (e r))).G x y) (by kernel_rfl) (by simp only [A, c, bo, so, oa, os, on, ofs])
theorem s0_ev : EvA (env g55 g119 g120 s0) [4, 1, 0, 1, 2, 1, 3, 1, 3, 1, 4, 1, 0, 1, 1] [1, 5, 6] e (A_0 (s0c s0 some)) := fun x y => Eq.trans (b := (A_0 (s0c s0 fun r => some (e r))).G x y) (by kernel_rfl) (by simp only [A_0, s0c, bo, so, oa, os, on, ofs])
end
def s0 : Nat → S0 R
 | 0, _, _, _, _, _, _ => none
 | k + 1, x0, x1, x2, x3, x4, x5 => s0c (s0 k) some x0 x1 x2 x3 x4 x5
def f (k : Nat) (a0 a1 a2 : Int) (a3 : ByteArray) : Option R := c (convert_Digits.f k) (values_Check.f k) (words_Quote.f k) (s0 k) some a0 a1 a2 a3
noncomputable abbrev E (k : Nat) : FEnv := env (convert_Digits.f k) (values_Check.f k) (words_Quote.f k) (s0 k)
theorem hE (k : Nat) : EnvOK (E k).toEnv := ctsOK (Lc (convert_Digits.ok k) (Lc (values_Check.ok k) (Lc (words_Quote.ok k) L0)))
theorem sk : ∀ k, ∀ s ∈ [sg0 (s0 k)], SegB prog f105 0 s
 | 0 => (Lc (sn (Lc (fun _ _ => rfl) L0)) L0)
 | k + 1 => (Lc (sg_ok (hE k) (sk k) (Lc s0_ev L0)) L0)
theorem ok (k : Nat) : CtOK prog 105 (ct (f k)) := fn_ok func105 rfl (by decide) (hE k) (sk k) (Lc ev L0)
end words_Show
namespace sw_value
abbrev R : Type := Int × (List ByteArray)
def e (r : R) : Res := ⟨.tup [], [some (.box [(.own 1), (.d (.int .i64) r.1)]), some (.own .str false r.2)]⟩
abbrev T (δ : Type) : Type := Int → Int → Int → ByteArray → Int → (List ByteArray) → Option δ
abbrev A {δ : Type} (g : T δ) : Arm δ := ⟨[.k (.ptr 0 0), .s T_api_Value], [.box [.c (.own 1), .g (.int .i64)], .own .str false], fun x y => g x.2.1.1.1 x.2.1.1.2.1 x.2.1.1.2.2.1 x.2.1.1.2.2.2.1 y.1.2.1 y.2.1⟩
abbrev G : Type := T R
def ct (g : G) : Ct := mkCt 1 [] [A g] e
section
variable {β : Type} (g27_0 : sw_word.G0) (g27_1 : sw_word.G1) (g30_0 : sw_fail.G0) (g30_1 : sw_fail.G1) (g105 : words_Show.G)
noncomputable abbrev env : FEnv := mkEnv prog f84 [(27, sw_word.ct g27_0 g27_1), (30, sw_fail.ct g30_0 g30_1), (105, words_Show.ct g105)] 1 [] []
def c (ret : R → Option β) (a0 a1 a2 : Int) (a3 : ByteArray) (a4 : Int) (a5 : List ByteArray) : Option β := ((g105 a0 a1 a2 a3).bind fun r0 => ((g30_0 r0.2 a4 a5).bind fun r1 => (Sum.elim (fun r2 => ((g27_0 [r0.1] r2.1 r2.2).bind fun r3 => (ret (r3.1, r3.2)))) (fun r4 => ((g27_1 [r0.1] r4).bind fun r5 => (ret (r5.1, r5.2)))) r1)))
variable {g27_0} {g27_1} {g30_0} {g30_1} {g105}
theorem ev : EvA (env g27_0 g27_1 g30_0 g30_1 g105) [] [0, 1] e (A (c g27_0 g27_1 g30_0 g105 some)) := fun x y => Eq.trans (b := (A (c g27_0 g27_1 g30_0 g105 fun r => some (e r))).G x y) (by kernel_rfl) (by simp only [A, c, bo, so, oa, os, on, ofs])
end
def f (k : Nat) (a0 a1 a2 : Int) (a3 : ByteArray) (a4 : Int) (a5 : List ByteArray) : Option R := c (sw_word.f0 k) (sw_word.f1 k) (sw_fail.f0 k) (words_Show.f k) some a0 a1 a2 a3 a4 a5
noncomputable abbrev E (k : Nat) : FEnv := env (sw_word.f0 k) (sw_word.f1 k) (sw_fail.f0 k) (sw_fail.f1 k) (words_Show.f k) 
theorem hE (k : Nat) : EnvOK (E k).toEnv := ctsOK (Lc (sw_word.ok k) (Lc (sw_fail.ok k) (Lc (words_Show.ok k) L0)))
theorem ok (k : Nat) : CtOK prog 84 (ct (f k)) := fn_ok func84 rfl (by decide) (hE k) L0 (Lc ev L0)
end sw_value
namespace sw_col
abbrev R : Type := Int × (List ByteArray)
def e (r : R) : Res := ⟨.tup [], [some (.box [(.own 1), (.d (.int .i64) r.1)]), some (.own .str false r.2)]⟩
abbrev T (δ : Type) : Type := ByteArray → Int → Bool → Int → Int → Int → ByteArray → Int → (List ByteArray) → Option δ
abbrev A {δ : Type} (g : T δ) : Arm δ := ⟨[.k (.ptr 0 0), .s T_api_Col], [.box [.c (.own 1), .g (.int .i64)], .own .str false], fun x y => g x.2.1.1.1 x.2.1.1.2.1 x.2.1.1.2.2.1 x.2.1.1.2.2.2.1.1 x.2.1.1.2.2.2.1.2.1 x.2.1.1.2.2.2.1.2.2.1 x.2.1.1.2.2.2.1.2.2.2.1 y.1.2.1 y.2.1⟩
abbrev G : Type := T R
def ct (g : G) : Ct := mkCt 1 [] [A g] e
section
variable {β : Type} (g27_0 : sw_word.G0) (g27_1 : sw_word.G1) (g56 : sw_name.G) (g65 : sw_kind.G) (g84 : sw_value.G)
noncomputable abbrev env : FEnv := mkEnv prog f64 [(27, sw_word.ct g27_0 g27_1), (56, sw_name.ct g56), (65, sw_kind.ct g65), (84, sw_value.ct g84)] 1 [] []
def c (ret : R → Option β) (a0 : ByteArray) (a1 : Int) (a2 : Bool) (a3 a4 a5 : Int) (a6 : ByteArray) (a7 : Int) (a8 : List ByteArray) : Option β := ((g56 [a0] a7 a8).bind fun r0 => ((g65 a1 r0.1 r0.2).bind fun r1 => (bif a2 then ((g27_0 [(ByteArray.mk (List.toArray [110, 117, 108, 108]))] r1.1 r1.2).bind fun r2 => ((g84 a3 a4 a5 a6 r2.1 r2.2).bind fun r3 => (ret (r3.1, r3.2)))) else ((g27_0 [(ByteArray.mk (List.toArray [115, 101, 116]))] r1.1 r1.2).bind fun r4 => ((g84 a3 a4 a5 a6 r4.1 r4.2).bind fun r5 => (ret (r5.1, r5.2)))))))
variable {g27_0} {g27_1} {g56} {g65} {g84}
theorem ev : EvA (env g27_0 g27_1 g56 g65 g84) [] [0, 1] e (A (c g27_0 g56 g65 g84 some)) := fun x y => Eq.trans (b := (A (c g27_0 g56 g65 g84 fun r => some (e r))).G x y) (by kernel_rfl) (by simp only [A, c, bo, so, oa, os, on, ofs])
end
def f (k : Nat) (a0 : ByteArray) (a1 : Int) (a2 : Bool) (a3 a4 a5 : Int) (a6 : ByteArray) (a7 : Int) (a8 : List ByteArray) : Option R := c (sw_word.f0 k) (sw_name.f k) (sw_kind.f k) (sw_value.f k) some a0 a1 a2 a3 a4 a5 a6 a7 a8
noncomputable abbrev E (k : Nat) : FEnv := env (sw_word.f0 k) (sw_word.f1 k) (sw_name.f k) (sw_kind.f k) (sw_value.f k) 
theorem hE (k : Nat) : EnvOK (E k).toEnv := ctsOK (Lc (sw_word.ok k) (Lc (sw_name.ok k) (Lc (sw_kind.ok k) (Lc (sw_value.ok k) L0))))
theorem ok (k : Nat) : CtOK prog 64 (ct (f k)) := fn_ok func64 rfl (by decide) (hE k) L0 (Lc ev L0)
end sw_col
end Go.Proofs.YtimadphjdkjgaaaGreatDoor.Aev
