import Derived.Test.YtimadphjdkjgaaaGreatDoorTys
import Derived.Test.YtimadphjdkjgaaaGreatDoorProg
import Derived.Laws.Externs
import Derived.Lib.Bytealg
import Derived.Test.YtimadphjdkjgaaaGreatDoorF9
import Derived.Test.YtimadphjdkjgaaaGreatDoorF10
/- By a program of this session (AEV): functions of the program as plain functions, and that the machine does what they say. -/
namespace Go.Proofs.YtimadphjdkjgaaaGreatDoor.Aev
set_option linter.unusedVariables false
set_option linter.unusedSimpArgs false
set_option maxRecDepth 100000
set_option maxHeartbeats 4000000
open Go Go.Proofs.Tryz
namespace r36_value
def e (r : Int) : Res := ⟨.v (.one (.d (.int .i64) r)), []⟩
abbrev T (δ : Type) : Type := Int → Option δ
abbrev A {δ : Type} (g : T δ) : Arm δ := ⟨[.d (.int .u8)], [], fun x y => g x.1⟩
abbrev G : Type := T Int
def ct (g : G) : Ct := mkCt 0 [] [A g] e
abbrev S0 (δ : Type) : Type := Int → Bool → Option δ
abbrev A_0 {δ : Type} (s : S0 δ) : Arm δ := ⟨[.d (.int .u8), .d .bool], [], fun x y => s x.1 x.2.1⟩
def sg0 (s : S0 Int) : Seg := mkSg [1, 4, 0, 1] [] [0, 3] [A_0 s] e
section
variable {β : Type} (s0 : S0 Int)
noncomputable abbrev env : FEnv := mkEnv prog f128 [] 0 [] [sg0 s0]
def c (ret : Int → Option β) (a0 : Int) : Option β := (bif (decide (a0 ≥ (48 : Int))) then ((s0 a0 (decide (a0 ≤ (57 : Int)))).bind ret) else ((s0 a0 false).bind ret))
def s0c (ret : Int → Option β) (x0 : Int) (x1 : Bool) : Option β := (bif x1 then (ret ((IntKind.wrap .i64 (IntKind.wrap .u8 (x0 - (48 : Int)))))) else (bif (decide (x0 ≥ (97 : Int))) then (bif (decide (x0 ≤ (102 : Int))) then (ret ((IntKind.wrap .i64 ((IntKind.wrap .i64 (IntKind.wrap .u8 (x0 - (97 : Int)))) + (10 : Int))))) else (ret ((-1 : Int)))) else (ret ((-1 : Int)))))
variable {s0}
theorem ev : EvA (env s0) [] [0] e (A (c s0 some)) := fun x y => Eq.trans (b := (A (c s0 fun r => some (e r))).G x y) (by kernel_rfl) (by simp only [A, c, bo, so, oa, os, on, ofs])
theorem s0_ev : EvA (env s0) [1, 4, 0, 1] [0, 3] e (A_0 (s0c some)) := fun x y => Eq.trans (b := (A_0 (s0c fun r => some (e r))).G x y) (by kernel_rfl) (by simp only [A_0, s0c, bo, so, oa, os, on, ofs])
end
def s0 : Nat → S0 Int
 | 0, _, _ => none
 | k + 1, x0, x1 => s0c  some x0 x1
def f (k : Nat) (a0 : Int) : Option Int := c (s0 k) some a0
noncomputable abbrev E (k : Nat) : FEnv := env  (s0 k)
theorem hE (k : Nat) : EnvOK (E k).toEnv := ctsOK L0
theorem sk : ∀ k, ∀ s ∈ [sg0 (s0 k)], SegB prog f128 0 s
 | 0 => (Lc (sn (Lc (fun _ _ => rfl) L0)) L0)
 | k + 1 => (Lc (sg_ok (hE k) (sk k) (Lc s0_ev L0)) L0)
theorem ok (k : Nat) : CtOK prog 128 (ct (f k)) := fn_ok func128 rfl (by decide) (hE k) (sk k) (Lc ev L0)
end r36_value
namespace r36_Unquote
abbrev R : Type := ByteArray × Int
def e (r : R) : Res := ⟨.tup [(.one (.d .str r.1)), (.one (.d (.int .i64) r.2))], []⟩
abbrev T (δ : Type) : Type := ByteArray → Option δ
abbrev A {δ : Type} (g : T δ) : Arm δ := ⟨[.d .str], [], fun x y => g x.1⟩
abbrev G : Type := T R
def ct (g : G) : Ct := mkCt 0 [] [A g] e
abbrev S0 (δ : Type) : Type := ByteArray → Int → (List Int) → Option δ
abbrev A_0 {δ : Type} (s : S0 δ) : Arm δ := ⟨[.d .str, .k (.own 0), .d (.int .i64)], [.own (.int .u8) false], fun x y => s x.1 x.2.2.1 y.1⟩
abbrev S1 (δ : Type) : Type := ByteArray → Int → Int → Bool → (List Int) → Option δ
abbrev A_1 {δ : Type} (s : S1 δ) : Arm δ := ⟨[.d .str, .k (.own 0), .d (.int .i64), .d (.int .u8), .d .bool], [.own (.int .u8) false], fun x y => s x.1 x.2.2.1 x.2.2.2.1 x.2.2.2.2.1 y.1⟩
abbrev S2 (δ : Type) : Type := ByteArray → Int → Int → Bool → (List Int) → Option δ
abbrev A_2 {δ : Type} (s : S2 δ) : Arm δ := ⟨[.d .str, .k (.own 0), .d (.int .i64), .d (.int .u8), .d .bool], [.own (.int .u8) false], fun x y => s x.1 x.2.2.1 x.2.2.2.1 x.2.2.2.2.1 y.1⟩
abbrev S3 (δ : Type) : Type := ByteArray → Int → Int → (List Int) → Option δ
abbrev A_3 {δ : Type} (s : S3 δ) : Arm δ := ⟨[.d .str, .k (.own 0), .d (.int .i64), .d (.int .u8)], [.own (.int .u8) false], fun x y => s x.1 x.2.2.1 x.2.2.2.1 y.1⟩
abbrev S4 (δ : Type) : Type := ByteArray → Int → (List Int) → Option δ
abbrev A_4 {δ : Type} (s : S4 δ) : Arm δ := ⟨[.d .str, .k (.own 0), .d (.int .i64)], [.own (.int .u8) false], fun x y => s x.1 x.2.2.1 y.1⟩
def sg0 (s : S0 R) : Seg := mkSg [4, 1, 0, 1, 1, 1] [.own 4 (.int .u8)] [0, 4, 5] [A_0 s] e
def sg1 (s : S1 R) : Seg := mkSg [1, 0, 1, 4, 0, 1, 5, 4, 1, 0, 1, 1, 1] [] [0, 4, 5, 6, 29] [A_1 s] e
def sg2 (s : S2 R) : Seg := mkSg [1, 1, 1, 2, 1, 0, 1, 4, 0, 1, 5, 4, 1, 0, 1, 1, 1] [] [0, 4, 5, 6, 44] [A_2 s] e
def sg3 (s : S3 R) : Seg := mkSg [1, 1, 4, 0, 1, 5, 4, 1, 0, 1, 1, 1] [] [0, 4, 5, 6] [A_3 s] e
def sg4 (s : S4 R) : Seg := mkSg [1, 1, 5, 4, 1, 0, 1, 1, 1] [] [0, 4, 5] [A_4 s] e
section
variable {β : Type} (g92 : r36_Quote.G) (g128 : r36_value.G) (s0 : S0 R) (s1 : S1 R) (s2 : S2 R) (s3 : S3 R) (s4 : S4 R)
noncomputable abbrev env : FEnv := mkEnv prog f129 [(92, r36_Quote.ct g92), (128, r36_value.ct g128)] 0 [] [sg0 s0, sg1 s1, sg2 s2, sg3 s3, sg4 s4]
def c (ret : R → Option β) (a0 : ByteArray) : Option β := (bif (decide ((a0.size : Int) < (2 : Int))) then (ret ((ByteArray.mk (List.toArray [])), (7 : Int))) else ((s0 a0 (1 : Int) []).bind ret))
def s0c (ret : R → Option β) (x0 : ByteArray) (x1 : Int) (x2 : List Int) : Option β := (bif (decide (x1 < (IntKind.wrap .i64 ((x0.size : Int) - (1 : Int))))) then (bif ((decide ((0 : Int) ≤ x1)) && (decide (x1 < (x0.size : Int)))) then (bif ((bt x0 x1) == (92 : Int)) then ((s1 x0 x1 (bt x0 x1) (decide ((IntKind.wrap .i64 (x1 + (1 : Int))) < (IntKind.wrap .i64 ((x0.size : Int) - (1 : Int))))) x2).bind ret) else ((s1 x0 x1 (bt x0 x1) false x2).bind ret)) else none) else ((g92 (ByteArray.mk (List.toArray (List.map (fun n => (UInt8.ofNat (Int.toNat n))) x2)))).bind fun r0 => (bif (!(r0.toList == x0.toList)) then (ret ((ByteArray.mk (List.toArray [])), (7 : Int))) else (ret ((ByteArray.mk (List.toArray (List.map (fun n => (UInt8.ofNat (Int.toNat n))) x2))), (0 : Int))))))
def s1c (ret : R → Option β) (x0 : ByteArray) (x1 x2 : Int) (x3 : Bool) (x4 : List Int) : Option β := (bif x3 then (bif ((decide ((0 : Int) ≤ (IntKind.wrap .i64 (x1 + (1 : Int))))) && (decide ((IntKind.wrap .i64 (x1 + (1 : Int))) < (x0.size : Int)))) then (bif ((bt x0 (IntKind.wrap .i64 (x1 + (1 : Int)))) == (120 : Int)) then ((s2 x0 (IntKind.wrap .i64 (x1 + (1 : Int))) (bt x0 (IntKind.wrap .i64 (x1 + (1 : Int)))) (decide ((IntKind.wrap .i64 ((IntKind.wrap .i64 (x1 + (1 : Int))) + (2 : Int))) < (IntKind.wrap .i64 ((x0.size : Int) - (1 : Int))))) x4).bind ret) else ((s2 x0 (IntKind.wrap .i64 (x1 + (1 : Int))) (bt x0 (IntKind.wrap .i64 (x1 + (1 : Int)))) false x4).bind ret)) else none) else ((s3 x0 x1 x2 x4).bind ret))
def s2c (ret : R → Option β) (x0 : ByteArray) (x1 x2 : Int) (x3 : Bool) (x4 : List Int) : Option β := (bif x3 then (bif ((decide ((0 : Int) ≤ (IntKind.wrap .i64 (x1 + (1 : Int))))) && (decide ((IntKind.wrap .i64 (x1 + (1 : Int))) < (x0.size : Int)))) then ((g128 (bt x0 (IntKind.wrap .i64 (x1 + (1 : Int))))).bind fun r0 => (bif ((decide ((0 : Int) ≤ (IntKind.wrap .i64 (x1 + (2 : Int))))) && (decide ((IntKind.wrap .i64 (x1 + (2 : Int))) < (x0.size : Int)))) then ((g128 (bt x0 (IntKind.wrap .i64 (x1 + (2 : Int))))).bind fun r1 => ((s3 x0 (IntKind.wrap .i64 (x1 + (2 : Int))) (IntKind.wrap .u8 (IntKind.wrap .i64 ((IntKind.wrap .i64 ((if ((0 : Int) > r0) then (0 : Int) else r0) * (16 : Int))) + (if ((0 : Int) > r1) then (0 : Int) else r1)))) x4).bind ret)) else none)) else none) else ((s3 x0 x1 x2 x4).bind ret))
def s3c (ret : R → Option β) (x0 : ByteArray) (x1 x2 : Int) (x3 : List Int) : Option β := (bif (decide (((x3.length + (1 : Nat)) * (1 : Nat)) ≤ (35184372088832 : Nat))) then ((s4 x0 x1 (x3 ++ [x2])).bind ret) else none)
def s4c (ret : R → Option β) (x0 : ByteArray) (x1 : Int) (x2 : List Int) : Option β := ((s0 x0 (IntKind.wrap .i64 (x1 + (1 : Int))) x2).bind ret)
variable {g92} {g128} {s0} {s1} {s2} {s3} {s4}
theorem ev : EvA (env g92 g128 s0 s1 s2 s3 s4) [] [0] e (A (c s0 some)) := fun x y => Eq.trans (b := (A (c s0 fun r => some (e r))).G x y) (by kernel_rfl) (by simp only [A, c, bo, so, oa, os, on, ofs])
theorem s0_ev : EvA (env g92 g128 s0 s1 s2 s3 s4) [4, 1, 0, 1, 1, 1] [0, 4, 5] e (A_0 (s0c g92 s1 some)) := fun x y => Eq.trans (b := (A_0 (s0c g92 s1 fun r => some (e r))).G x y) (by kernel_rfl) (by simp only [A_0, s0c, bo, so, oa, os, on, ofs])
theorem s1_ev : EvA (env g92 g128 s0 s1 s2 s3 s4) [1, 0, 1, 4, 0, 1, 5, 4, 1, 0, 1, 1, 1] [0, 4, 5, 6, 29] e (A_1 (s1c s2 s3 some)) := fun x y => Eq.trans (b := (A_1 (s1c s2 s3 fun r => some (e r))).G x y) (by kernel_rfl) (by simp only [A_1, s1c, bo, so, oa, os, on, ofs])
theorem s2_ev : EvA (env g92 g128 s0 s1 s2 s3 s4) [1, 1, 1, 2, 1, 0, 1, 4, 0, 1, 5, 4, 1, 0, 1, 1, 1] [0, 4, 5, 6, 44] e (A_2 (s2c g128 s3 some)) := fun x y => Eq.trans (b := (A_2 (s2c g128 s3 fun r => some (e r))).G x y) (by kernel_rfl) (by simp only [A_2, s2c, bo, so, oa, os, on, ofs])
theorem s3_ev : EvA (env g92 g128 s0 s1 s2 s3 s4) [1, 1, 4, 0, 1, 5, 4, 1, 0, 1, 1, 1] [0, 4, 5, 6] e (A_3 (s3c s4 some)) := fun x y => Eq.trans (b := (A_3 (s3c s4 fun r => some (e r))).G x y) (by kernel_rfl) (by simp only [A_3, s3c, bo, so, oa, os, on, ofs])
theorem s4_ev : EvA (env g92 g128 s0 s1 s2 s3 s4) [1, 1, 5, 4, 1, 0, 1, 1, 1] [0, 4, 5] e (A_4 (s4c s0 some)) := fun x y => Eq.trans (b := (A_4 (s4c s0 fun r => some (e r))).G x y) (by kernel_rfl) (by simp only [A_4, s4c, bo, so, oa, os, on, ofs])
end
mutual
def s0 : Nat → S0 R
 | 0, _, _, _ => none
 | k + 1, x0, x1, x2 => s0c (r36_Quote.f k) (s1 k) some x0 x1 x2
def s1 : Nat → S1 R
 | 0, _, _, _, _, _ => none
 | k + 1, x0, x1, x2, x3, x4 => s1c (s2 k) (s3 k) some x0 x1 x2 x3 x4
def s2 : Nat → S2 R
 | 0, _, _, _, _, _ => none
 | k + 1, x0, x1, x2, x3, x4 => s2c (r36_value.f k) (s3 k) some x0 x1 x2 x3 x4
def s3 : Nat → S3 R
 | 0, _, _, _, _ => none
 | k + 1, x0, x1, x2, x3 => s3c (s4 k) some x0 x1 x2 x3
def s4 : Nat → S4 R
 | 0, _, _, _ => none
 | k + 1, x0, x1, x2 => s4c (s0 k) some x0 x1 x2
end
def f (k : Nat) (a0 : ByteArray) : Option R := c (s0 k) some a0
noncomputable abbrev E (k : Nat) : FEnv := env (r36_Quote.f k) (r36_value.f k) (s0 k) (s1 k) (s2 k) (s3 k) (s4 k)
theorem hE (k : Nat) : EnvOK (E k).toEnv := ctsOK (Lc (r36_Quote.ok k) (Lc (r36_value.ok k) L0))
theorem sk : ∀ k, ∀ s ∈ [sg0 (s0 k), sg1 (s1 k), sg2 (s2 k), sg3 (s3 k), sg4 (s4 k)], SegB prog f129 0 s
 | 0 => (Lc (sn (Lc (fun _ _ => rfl) L0)) (Lc (sn (Lc (fun _ _ => rfl) L0)) (Lc (sn (Lc (fun _ _ => rfl) L0)) (Lc (sn (Lc (fun _ _ => rfl) L0)) (Lc (sn (Lc (fun _ _ => rfl) L0)) L0)))))
 | k + 1 => (Lc (sg_ok (hE k) (sk k) (Lc s0_ev L0)) (Lc (sg_ok (hE k) (sk k) (Lc s1_ev L0)) (Lc (sg_ok (hE k) (sk k) (Lc s2_ev L0)) (Lc (sg_ok (hE k) (sk k) (Lc s3_ev L0)) (Lc (sg_ok (hE k) (sk k) (Lc s4_ev L0)) L0)))))
theorem ok (k : Nat) : CtOK prog 129 (ct (f k)) := fn_ok func129 rfl (by decide) (hE k) (sk k) (Lc ev L0)
end r36_Unquote
namespace r36_guess
abbrev R : Type := Int × Int × Int × ByteArray
def e (r : R) : Res := ⟨.v (.agg [(.d (.int .i64) r.1), (.d (.int .i64) r.2.1), (.d (.int .u64) r.2.2.1), (.d .str r.2.2.2)]), []⟩
abbrev T (δ : Type) : Type := ByteArray → Option δ
abbrev A {δ : Type} (g : T δ) : Arm δ := ⟨[.d .str], [], fun x y => g x.1⟩
abbrev G : Type := T R
def ct (g : G) : Ct := mkCt 0 [] [A g] e
abbrev S0 (δ : Type) : Type := ByteArray → Bool → Int → Int → Int → ByteArray → Option δ
abbrev A_0 {δ : Type} (s : S0 δ) : Arm δ := ⟨[.d .str, .k (.ptr 0 0), .d .bool], [.box [.g T_api_Value]], fun x y => s x.1 x.2.2.1 y.1.1.1 y.1.1.2.1 y.1.1.2.2.1 y.1.1.2.2.2.1⟩
abbrev S1 (δ : Type) : Type := ByteArray → Int → Int → Int → Int → ByteArray → Int → Int → Int → ByteArray → Option δ
abbrev A_1 {δ : Type} (s : S1 δ) : Arm δ := ⟨[.d .str, .k (.ptr 0 0), .k (.ptr 1 0), .d (.int .i64)], [.box [.g T_api_Value], .box [.g T_api_Value]], fun x y => s x.1 x.2.2.2.1 y.1.1.1 y.1.1.2.1 y.1.1.2.2.1 y.1.1.2.2.2.1 y.2.1.1.1 y.2.1.1.2.1 y.2.1.1.2.2.1 y.2.1.1.2.2.2.1⟩
abbrev S2 (δ : Type) : Type := ByteArray → Bool → Int → Int → Int → ByteArray → Option δ
abbrev A_2 {δ : Type} (s : S2 δ) : Arm δ := ⟨[.d .str, .k (.ptr 0 0), .d .bool], [.box [.g T_api_Value]], fun x y => s x.1 x.2.2.1 y.1.1.1 y.1.1.2.1 y.1.1.2.2.1 y.1.1.2.2.2.1⟩
abbrev S3 (δ : Type) : Type := ByteArray → Bool → Int → Int → Int → ByteArray → Option δ
abbrev A_3 {δ : Type} (s : S3 δ) : Arm δ := ⟨[.d .str, .k (.ptr 0 0), .d .bool], [.box [.g T_api_Value]], fun x y => s x.1 x.2.2.1 y.1.1.1 y.1.1.2.1 y.1.1.2.2.1 y.1.1.2.2.2.1⟩
def sg0 (s : S0 R) : Seg := mkSg [1, 3, 1, 3, 1, 3, 1, 4, 0, 1] [] [0, 2, 23] [A_0 s] e
def sg1 (s : S1 R) : Seg := mkSg [4, 1, 0, 1, 2, 1, 3, 1, 3, 1, 3, 1, 4, 0, 1] [] [0, 2, 3, 4] [A_1 s] e
def sg2 (s : S2 R) : Seg := mkSg [1, 3, 1, 3, 1, 3, 1, 3, 1, 4, 0, 1] [] [0, 2, 49] [A_2 s] e
def sg3 (s : S3 R) : Seg := mkSg [1, 3, 1, 3, 1, 3, 1, 3, 1, 3, 1, 4, 0, 1] [] [0, 2, 66] [A_3 s] e
section
variable {β : Type} (g74 : r07_Number.G) (g128 : r36_value.G) (g129 : r36_Unquote.G) (s0 : S0 R) (s1 : S1 R) (s2 : S2 R) (s3 : S3 R)
noncomputable abbrev env : FEnv := mkEnv prog f113 [(74, r07_Number.ct g74), (128, r36_value.ct g128), (129, r36_Unquote.ct g129)] 0 [] [sg0 s0, sg1 s1, sg2 s2, sg3 s3]
def c (ret : R → Option β) (a0 : ByteArray) : Option β := (bif (a0.toList == (ByteArray.toList (ByteArray.mk (List.toArray [110, 117, 108, 108])))) then (ret ((0 : Int), (0 : Int), (0 : Int), (ByteArray.mk (List.toArray [])))) else (bif (a0.toList == (ByteArray.toList (ByteArray.mk (List.toArray [116, 114, 117, 101])))) then (ret ((1 : Int), (1 : Int), (0 : Int), (ByteArray.mk (List.toArray [])))) else (bif (a0.toList == (ByteArray.toList (ByteArray.mk (List.toArray [102, 97, 108, 115, 101])))) then (ret ((1 : Int), (0 : Int), (0 : Int), (ByteArray.mk (List.toArray [])))) else (bif ((a0.size : Int) == (17 : Int)) then (bif (true && (decide ((0 : Int) < (a0.size : Int)))) then ((s0 a0 ((bt a0 (0 : Int)) == (114 : Int)) (0 : Int) (0 : Int) (0 : Int) (ByteArray.mk (List.toArray []))).bind ret) else none) else ((s0 a0 false (0 : Int) (0 : Int) (0 : Int) (ByteArray.mk (List.toArray []))).bind ret)))))
def s0c (ret : R → Option β) (x0 : ByteArray) (x1 : Bool) (x2 x3 x4 : Int) (x5 : ByteArray) : Option β := (bif x1 then ((s1 x0 (1 : Int) x2 x3 x4 x5 (3 : Int) (0 : Int) (0 : Int) (ByteArray.mk (List.toArray []))).bind ret) else (bif (decide ((x0.size : Int) > (0 : Int))) then (bif (true && (decide ((0 : Int) < (x0.size : Int)))) then ((s2 x0 ((bt x0 (0 : Int)) == (98 : Int)) x2 x3 x4 x5).bind ret) else none) else ((s2 x0 false x2 x3 x4 x5).bind ret)))
def s1c (ret : R → Option β) (x0 : ByteArray) (x1 x2 : Int) (x3 x4 : Int) (x5 : ByteArray) (x6 x7 x8 : Int) (x9 : ByteArray) : Option β := (bif (decide (x1 < (17 : Int))) then (bif ((decide ((0 : Int) ≤ x1)) && (decide (x1 < (x0.size : Int)))) then ((g128 (bt x0 x1)).bind fun r0 => ((s1 x0 (IntKind.wrap .i64 (x1 + (1 : Int))) x2 x3 x4 x5 x6 x7 (IntKind.wrap .u64 ((BitVec.toNat ((BitVec.ofInt (64 : Nat) (IntKind.wrap .u64 (x8 * (16 : Int)))) ||| (BitVec.ofInt (64 : Nat) (IntKind.wrap .u64 (if ((0 : Int) > r0) then (0 : Int) else r0))))) : Int)) x9).bind ret)) else none) else (ret (x6, x7, x8, x9)))
def s2c (ret : R → Option β) (x0 : ByteArray) (x1 : Bool) (x2 x3 x4 : Int) (x5 : ByteArray) : Option β := (bif x1 then (bif ((true && (decide ((1 : Int) ≤ (x0.size : Int)))) && (decide ((x0.size : Int) ≤ (x0.size : Int)))) then ((g129 (ByteArray.extract x0 (1 : Nat) (Int.toNat (x0.size : Int)))).bind fun r0 => (ret ((4 : Int), (0 : Int), (0 : Int), r0.1))) else none) else (bif (decide ((x0.size : Int) > (0 : Int))) then (bif (true && (decide ((0 : Int) < (x0.size : Int)))) then ((s3 x0 ((bt x0 (0 : Int)) == (34 : Int)) x2 x3 x4 x5).bind ret) else none) else ((s3 x0 false x2 x3 x4 x5).bind ret)))
def s3c (ret : R → Option β) (x0 : ByteArray) (x1 : Bool) (x2 x3 x4 : Int) (x5 : ByteArray) : Option β := (bif x1 then ((g129 x0).bind fun r0 => (ret ((5 : Int), (0 : Int), (0 : Int), r0.1))) else ((g74 x0).bind fun r1 => (ret ((2 : Int), r1.1, (0 : Int), (ByteArray.mk (List.toArray []))))))
variable {g74} {g128} {g129} {s0} {s1} {s2} {s3}
theorem ev : EvA (env g74 g128 g129 s0 s1 s2 s3) [] [0] e (A (c s0 some)) := fun x y => Eq.trans (b := (A (c s0 fun r => some (e r))).G x y) (by kernel_rfl) (by simp only [A, c, bo, so, oa, os, on, ofs])
theorem s0_ev : EvA (env g74 g128 g129 s0 s1 s2 s3) [1, 3, 1, 3, 1, 3, 1, 4, 0, 1] [0, 2, 23] e (A_0 (s0c s1 s2 some)) := fun x y => Eq.trans (b := (A_0 (s0c s1 s2 fun r => some (e r))).G x y) (by kernel_rfl) (by simp only [A_0, s0c, bo, so, oa, os, on, ofs])
theorem s1_ev : EvA (env g74 g128 g129 s0 s1 s2 s3) [4, 1, 0, 1, 2, 1, 3, 1, 3, 1, 3, 1, 4, 0, 1] [0, 2, 3, 4] e (A_1 (s1c g128 s1 some)) := fun x y => Eq.trans (b := (A_1 (s1c g128 s1 fun r => some (e r))).G x y) (by kernel_rfl) (by simp only [A_1, s1c, bo, so, oa, os, on, ofs])
theorem s2_ev : EvA (env g74 g128 g129 s0 s1 s2 s3) [1, 3, 1, 3, 1, 3, 1, 3, 1, 4, 0, 1] [0, 2, 49] e (A_2 (s2c g129 s3 some)) := fun x y => Eq.trans (b := (A_2 (s2c g129 s3 fun r => some (e r))).G x y) (by kernel_rfl) (by simp only [A_2, s2c, bo, so, oa, os, on, ofs])
theorem s3_ev : EvA (env g74 g128 g129 s0 s1 s2 s3) [1, 3, 1, 3, 1, 3, 1, 3, 1, 3, 1, 4, 0, 1] [0, 2, 66] e (A_3 (s3c g74 g129 some)) := fun x y => Eq.trans (b := (A_3 (s3c g74 g129 fun r => some (e r))).G x y) (by kernel_rfl) (by simp only [A_3, s3c, bo, so, oa, os, on, ofs])
end
mutual
def s0 : Nat → S0 R
 | 0, _, _, _, _, _, _ => none
 | k + 1, x0, x1, x2, x3, x4, x5 => s0c (s1 k) (s2 k) some x0 x1 x2 x3 x4 x5
def s1 : Nat → S1 R
 | 0, _, _, _, _, _, _, _, _, _, _ => none
 | k + 1, x0, x1, x2, x3, x4, x5, x6, x7, x8, x9 => s1c (r36_value.f k) (s1 k) some x0 x1 x2 x3 x4 x5 x6 x7 x8 x9
def s2 : Nat → S2 R
 | 0, _, _, _, _, _, _ => none
 | k + 1, x0, x1, x2, x3, x4, x5 => s2c (r36_Unquote.f k) (s3 k) some x0 x1 x2 x3 x4 x5
def s3 : Nat → S3 R
 | 0, _, _, _, _, _, _ => none
 | k + 1, x0, x1, x2, x3, x4, x5 => s3c (r07_Number.f k) (r36_Unquote.f k) some x0 x1 x2 x3 x4 x5
end
def f (k : Nat) (a0 : ByteArray) : Option R := c (s0 k) some a0
noncomputable abbrev E (k : Nat) : FEnv := env (r07_Number.f k) (r36_value.f k) (r36_Unquote.f k) (s0 k) (s1 k) (s2 k) (s3 k)
theorem hE (k : Nat) : EnvOK (E k).toEnv := ctsOK (Lc (r07_Number.ok k) (Lc (r36_value.ok k) (Lc (r36_Unquote.ok k) L0)))
theorem sk : ∀ k, ∀ s ∈ [sg0 (s0 k), sg1 (s1 k), sg2 (s2 k), sg3 (s3 k)], SegB prog f113 0 s
 | 0 => (Lc (sn (Lc (fun _ _ => rfl) L0)) (Lc (sn (Lc (fun _ _ => rfl) L0)) (Lc (sn (Lc (fun _ _ => rfl) L0)) (Lc (sn (Lc (fun _ _ => rfl) L0)) L0))))
 | k + 1 => (Lc (sg_ok (hE k) (sk k) (Lc s0_ev L0)) (Lc (sg_ok (hE k) (sk k) (Lc s1_ev L0)) (Lc (sg_ok (hE k) (sk k) (Lc s2_ev L0)) (Lc (sg_ok (hE k) (sk k) (Lc s3_ev L0)) L0))))
theorem ok (k : Nat) : CtOK prog 113 (ct (f k)) := fn_ok func113 rfl (by decide) (hE k) (sk k) (Lc ev L0)
end r36_guess
namespace r36_Value
abbrev R : Type := Int × Int × Int × ByteArray × Int
def e (r : R) : Res := ⟨.tup [(.agg [(.d (.int .i64) r.1), (.d (.int .i64) r.2.1), (.d (.int .u64) r.2.2.1), (.d .str r.2.2.2.1)]), (.one (.d (.int .i64) r.2.2.2.2))], []⟩
abbrev T (δ : Type) : Type := ByteArray → Option δ
abbrev A {δ : Type} (g : T δ) : Arm δ := ⟨[.d .str], [], fun x y => g x.1⟩
abbrev G : Type := T R
def ct (g : G) : Ct := mkCt 0 [] [A g] e
section
variable {β : Type} (g67 : r36_Show.G) (g113 : r36_guess.G)
noncomputable abbrev env : FEnv := mkEnv prog f100 [(67, r36_Show.ct g67), (113, r36_guess.ct g113)] 0 [] []
def c (ret : R → Option β) (a0 : ByteArray) : Option β := ((g113 a0).bind fun r0 => ((g67 r0.1 r0.2.1 r0.2.2.1 r0.2.2.2).bind fun r1 => (bif (r1.2 != (0 : Int)) then (ret ((0 : Int), (0 : Int), (0 : Int), (ByteArray.mk (List.toArray [])), (7 : Int))) else (bif (!(r1.1.toList == a0.toList)) then (ret ((0 : Int), (0 : Int), (0 : Int), (ByteArray.mk (List.toArray [])), (7 : Int))) else (ret (r0.1, r0.2.1, r0.2.2.1, r0.2.2.2, (0 : Int)))))))
variable {g67} {g113}
theorem ev : EvA (env g67 g113) [] [0] e (A (c g67 g113 some)) := fun x y => Eq.trans (b := (A (c g67 g113 fun r => some (e r))).G x y) (by kernel_rfl) (by simp only [A, c, bo, so, oa, os, on, ofs])
end
def f (k : Nat) (a0 : ByteArray) : Option R := c (r36_Show.f k) (r36_guess.f k) some a0
noncomputable abbrev E (k : Nat) : FEnv := env (r36_Show.f k) (r36_guess.f k) 
theorem hE (k : Nat) : EnvOK (E k).toEnv := ctsOK (Lc (r36_Show.ok k) (Lc (r36_guess.ok k) L0))
theorem ok (k : Nat) : CtOK prog 100 (ct (f k)) := fn_ok func100 rfl (by decide) (hE k) L0 (Lc ev L0)
end r36_Value
namespace r37_vals
abbrev R : Type := (List D_api_Value) × Bool
def e (r : R) : Res := ⟨.tup [(.one (.d (.sl T_api_Value) r.1)), (.one (.d .bool r.2))], []⟩
abbrev T (δ : Type) : Type := (List ByteArray) → Option δ
abbrev A {δ : Type} (g : T δ) : Arm δ := ⟨[.d (.sl .str)], [], fun x y => g x.1⟩
abbrev G : Type := T R
def ct (g : G) : Ct := mkCt 0 [] [A g] e
abbrev S0 (δ : Type) : Type := (List ByteArray) → Int → (List D_api_Value) → Option δ
abbrev A_0 {δ : Type} (s : S0 δ) : Arm δ := ⟨[.d (.sl .str), .k (.own 0), .d (.int .i64)], [.own T_api_Value false], fun x y => s x.1 x.2.2.1 y.1⟩
def sg0 (s : S0 R) : Seg := mkSg [4, 1, 0, 1, 1] [.own 4 T_api_Value] [0, 4, 5] [A_0 s] e
section
variable {β : Type} (g100 : r36_Value.G) (s0 : S0 R)
noncomputable abbrev env : FEnv := mkEnv prog f77 [(100, r36_Value.ct g100)] 0 [] [sg0 s0]
def c (ret : R → Option β) (a0 : List ByteArray) : Option β := ((s0 a0 (0 : Int) []).bind ret)
def s0c (ret : R → Option β) (x0 : List ByteArray) (x1 : Int) (x2 : List D_api_Value) : Option β := (bif (decide (x1 < (x0.length : Int))) then (bif ((decide ((0 : Int) ≤ x1)) && (decide (x1 < (x0.length : Int)))) then ((g100 (elem Ty.str x0 x1)).bind fun r0 => (bif (r0.2.2.2.2 != (0 : Int)) then (ret ([], false)) else (bif (decide (((x2.length + (1 : Nat)) * (40 : Nat)) ≤ (35184372088832 : Nat))) then ((s0 x0 (IntKind.wrap .i64 (x1 + (1 : Int))) (x2 ++ [(r0.1, (r0.2.1, (r0.2.2.1, (r0.2.2.2.1, ()))))])).bind ret) else none))) else none) else (ret (x2, true)))
variable {g100} {s0}
theorem ev : EvA (env g100 s0) [] [0] e (A (c s0 some)) := fun x y => Eq.trans (b := (A (c s0 fun r => some (e r))).G x y) (by kernel_rfl) (by simp only [A, c, bo, so, oa, os, on, ofs])
theorem s0_ev : EvA (env g100 s0) [4, 1, 0, 1, 1] [0, 4, 5] e (A_0 (s0c g100 s0 some)) := fun x y => Eq.trans (b := (A_0 (s0c g100 s0 fun r => some (e r))).G x y) (by kernel_rfl) (by simp only [A_0, s0c, bo, so, oa, os, on, ofs])
end
def s0 : Nat → S0 R
 | 0, _, _, _ => none
 | k + 1, x0, x1, x2 => s0c (r36_Value.f k) (s0 k) some x0 x1 x2
def f (k : Nat) (a0 : List ByteArray) : Option R := c (s0 k) some a0
noncomputable abbrev E (k : Nat) : FEnv := env (r36_Value.f k) (s0 k)
theorem hE (k : Nat) : EnvOK (E k).toEnv := ctsOK (Lc (r36_Value.ok k) L0)
theorem sk : ∀ k, ∀ s ∈ [sg0 (s0 k)], SegB prog f77 0 s
 | 0 => (Lc (sn (Lc (fun _ _ => rfl) L0)) L0)
 | k + 1 => (Lc (sg_ok (hE k) (sk k) (Lc s0_ev L0)) L0)
theorem ok (k : Nat) : CtOK prog 77 (ct (f k)) := fn_ok func77 rfl (by decide) (hE k) (sk k) (Lc ev L0)
end r37_vals
namespace r08_Find
def e (r : Int) : Res := ⟨.v (.one (.d (.int .i64) r)), []⟩
abbrev T (δ : Type) : Type := (List ByteArray) → ByteArray → Option δ
abbrev A {δ : Type} (g : T δ) : Arm δ := ⟨[.d (.sl .str), .d .str], [], fun x y => g x.1 x.2.1⟩
abbrev G : Type := T Int
def ct (g : G) : Ct := mkCt 0 [] [A g] e
abbrev S0 (δ : Type) : Type := (List ByteArray) → ByteArray → Int → Option δ
abbrev A_0 {δ : Type} (s : S0 δ) : Arm δ := ⟨[.d (.sl .str), .d .str, .d (.int .i64)], [], fun x y => s x.1 x.2.1 x.2.2.1⟩
def sg0 (s : S0 Int) : Seg := mkSg [4, 1, 0, 1] [] [0, 1, 5] [A_0 s] e
section
variable {β : Type} (s0 : S0 Int)
noncomputable abbrev env : FEnv := mkEnv prog f97 [] 0 [] [sg0 s0]
def c (ret : Int → Option β) (a0 : List ByteArray) (a1 : ByteArray) : Option β := ((s0 a0 a1 (0 : Int)).bind ret)
def s0c (ret : Int → Option β) (x0 : List ByteArray) (x1 : ByteArray) (x2 : Int) : Option β := (bif (decide (x2 < (x0.length : Int))) then (bif ((decide ((0 : Int) ≤ x2)) && (decide (x2 < (x0.length : Int)))) then (bif ((ByteArray.toList (elem Ty.str x0 x2)) == x1.toList) then (ret (x2)) else ((s0 x0 x1 (IntKind.wrap .i64 (x2 + (1 : Int)))).bind ret)) else none) else (ret ((-1 : Int))))
variable {s0}
theorem ev : EvA (env s0) [] [0, 1] e (A (c s0 some)) := fun x y => Eq.trans (b := (A (c s0 fun r => some (e r))).G x y) (by kernel_rfl) (by simp only [A, c, bo, so, oa, os, on, ofs])
theorem s0_ev : EvA (env s0) [4, 1, 0, 1] [0, 1, 5] e (A_0 (s0c s0 some)) := fun x y => Eq.trans (b := (A_0 (s0c s0 fun r => some (e r))).G x y) (by kernel_rfl) (by simp only [A_0, s0c, bo, so, oa, os, on, ofs])
end
def s0 : Nat → S0 Int
 | 0, _, _, _ => none
 | k + 1, x0, x1, x2 => s0c (s0 k) some x0 x1 x2
def f (k : Nat) (a0 : List ByteArray) (a1 : ByteArray) : Option Int := c (s0 k) some a0 a1
noncomputable abbrev E (k : Nat) : FEnv := env  (s0 k)
theorem hE (k : Nat) : EnvOK (E k).toEnv := ctsOK L0
theorem sk : ∀ k, ∀ s ∈ [sg0 (s0 k)], SegB prog f97 0 s
 | 0 => (Lc (sn (Lc (fun _ _ => rfl) L0)) L0)
 | k + 1 => (Lc (sg_ok (hE k) (sk k) (Lc s0_ev L0)) L0)
theorem ok (k : Nat) : CtOK prog 97 (ct (f k)) := fn_ok func97 rfl (by decide) (hE k) (sk k) (Lc ev L0)
end r08_Find
end Go.Proofs.YtimadphjdkjgaaaGreatDoor.Aev
