import Derived.Test.YtaehpfmnejeddaaGreatDoorTys
import Derived.Test.YtaehpfmnejeddaaGreatDoorProg
import Derived.Laws.Externs
import Derived.Lib.Bytealg
import Derived.Test.YtaehpfmnejeddaaGreatDoorF6
import Derived.Test.YtaehpfmnejeddaaGreatDoorF7
import Derived.Test.YtaehpfmnejeddaaGreatDoorF8
/- By a program of this session (AEV): functions of the program as plain functions, and that the machine does what they say. -/
namespace Go.Proofs.YtaehpfmnejeddaaGreatDoor.Aev
set_option linter.unusedVariables false
set_option linter.unusedSimpArgs false
set_option maxRecDepth 100000
set_option maxHeartbeats 4000000
open Go Go.Proofs.Tryz
namespace transomref14_PutChange
abbrev R : Type := ByteArray × Int
def e (r : R) : Res := ⟨.tup [(.one (.d .str r.1)), (.one (.d (.int .i64) r.2))], []⟩
abbrev T (δ : Type) : Type := D_api_Change → Option δ
abbrev A {δ : Type} (g : T δ) : Arm δ := ⟨[.s T_api_Change], [], fun x y => g x.1.1⟩
abbrev G : Type := T R
def ct (g : G) : Ct := mkCt 0 [] [A g] e
abbrev S0 (δ : Type) : Type := Bool → D_api_Change → Option δ
abbrev A_0 {δ : Type} (s : S0 δ) : Arm δ := ⟨[.k (.ptr 0 0), .d .bool], [.box [.g T_api_Change]], fun x y => s x.2.1 y.1.1⟩
abbrev S1 (δ : Type) : Type := D_api_Change → Option δ
abbrev A_1 {δ : Type} (s : S1 δ) : Arm δ := ⟨[.k (.ptr 0 0)], [.box [.g T_api_Change]], fun x y => s y.1.1⟩
abbrev S2 (δ : Type) : Type := Bool → D_api_Change → Option δ
abbrev A_2 {δ : Type} (s : S2 δ) : Arm δ := ⟨[.k (.ptr 0 0), .d .bool], [.box [.g T_api_Change]], fun x y => s x.2.1 y.1.1⟩
abbrev S3 (δ : Type) : Type := D_api_Change → Option δ
abbrev A_3 {δ : Type} (s : S3 δ) : Arm δ := ⟨[.k (.ptr 0 0)], [.box [.g T_api_Change]], fun x y => s y.1.1⟩
abbrev S4 (δ : Type) : Type := ByteArray → D_api_Change → Option δ
abbrev A_4 {δ : Type} (s : S4 δ) : Arm δ := ⟨[.k (.ptr 0 0), .d .str], [.box [.g T_api_Change]], fun x y => s x.2.1 y.1.1⟩
abbrev S5 (δ : Type) : Type := ByteArray → ByteArray → Int → D_api_Change → Option δ
abbrev A_5 {δ : Type} (s : S5 δ) : Arm δ := ⟨[.k (.ptr 0 0), .d .str, .d .str, .d (.int .i64)], [.box [.g T_api_Change]], fun x y => s x.2.1 x.2.2.1 x.2.2.2.1 y.1.1⟩
def sg0 (s : S0 R) : Seg := mkSg [1, 0, 1] [] [1, 34] [A_0 s] e
def sg1 (s : S1 R) : Seg := mkSg [1, 1] [] [1] [A_1 s] e
def sg2 (s : S2 R) : Seg := mkSg [1, 0, 1, 1] [] [1, 51] [A_2 s] e
def sg3 (s : S3 R) : Seg := mkSg [1, 1, 1] [] [1] [A_3 s] e
def sg4 (s : S4 R) : Seg := mkSg [1, 1, 1, 1, 1, 1] [] [1, 6] [A_4 s] e
def sg5 (s : S5 R) : Seg := mkSg [4, 1, 0, 1, 1, 1, 1, 1, 1, 1, 1] [] [1, 6, 9, 10] [A_5 s] e
section
variable {β : Type} (g34 : transomref14_long.G) (g35 : transomref14_def.G) (g36 : transomref09_Put.G) (g37 : transomref03_Uint.G) (g38 : transomref03_Text.G) (s0 : S0 R) (s1 : S1 R) (s2 : S2 R) (s3 : S3 R) (s4 : S4 R) (s5 : S5 R)
noncomputable abbrev env : FEnv := mkEnv prog f11 [(34, transomref14_long.ct g34), (35, transomref14_def.ct g35), (36, transomref09_Put.ct g36), (37, transomref03_Uint.ct g37), (38, transomref03_Text.ct g38)] 0 [] [sg0 s0, sg1 s1, sg2 s2, sg3 s3, sg4 s4, sg5 s5]
def c (ret : R → Option β) (a0 : D_api_Change) : Option β := (bif (decide (a0.1 < (1 : Int))) then ((s0 true a0).bind ret) else (bif (decide (a0.1 > (6 : Int))) then ((s0 true a0).bind ret) else (bif (decide (a0.2.2.2.2.2.2.1 < (0 : Int))) then ((s0 true a0).bind ret) else (bif (decide (a0.2.2.2.2.2.2.1 > (100 : Int))) then ((s0 true a0).bind ret) else ((s0 (decide ((a0.2.2.2.2.2.2.2.1.length : Int) > (8 : Int))) a0).bind ret)))))
def s0c (ret : R → Option β) (x0 : Bool) (x1 : D_api_Change) : Option β := (bif x0 then (ret ((ByteArray.mk (List.toArray [])), (1 : Int))) else ((s1 x1).bind ret))
def s1c (ret : R → Option β) (x0 : D_api_Change) : Option β := ((g34 [x0.2.1, x0.2.2.1, x0.2.2.2.1, x0.2.2.2.2.1, x0.2.2.2.2.2.1]).bind fun r0 => (bif r0 then ((s2 true x0).bind ret) else ((g34 x0.2.2.2.2.2.2.2.1).bind fun r1 => ((s2 r1 x0).bind ret))))
def s2c (ret : R → Option β) (x0 : Bool) (x1 : D_api_Change) : Option β := (bif x0 then (ret ((ByteArray.mk (List.toArray [])), (8 : Int))) else ((s3 x1).bind ret))
def s3c (ret : R → Option β) (x0 : D_api_Change) : Option β := ((g35 x0).bind fun r0 => (bif r0.2.2.2 then ((g36 r0.1 r0.2.1 r0.2.2.1).bind fun r1 => (bif (r1.2 != (0 : Int)) then (ret ((ByteArray.mk (List.toArray [])), r1.2)) else ((s4 r1.1 x0).bind ret))) else ((s4 (ByteArray.mk (List.toArray [])) x0).bind ret)))
def s4c (ret : R → Option β) (x0 : ByteArray) (x1 : D_api_Change) : Option β := ((g37 (IntKind.wrap .u64 x1.1)).bind fun r0 => ((g38 x1.2.1).bind fun r1 => (bif ((decide (r0.size ≤ (4611686018427387903 : Nat))) && (decide (r1.size ≤ (4611686018427387903 : Nat)))) then ((g38 x1.2.2.1).bind fun r2 => (bif ((decide ((ByteArray.size (r0 ++ r1)) ≤ (4611686018427387903 : Nat))) && (decide (r2.size ≤ (4611686018427387903 : Nat)))) then ((g38 x1.2.2.2.1).bind fun r3 => (bif ((decide ((ByteArray.size ((r0 ++ r1) ++ r2)) ≤ (4611686018427387903 : Nat))) && (decide (r3.size ≤ (4611686018427387903 : Nat)))) then ((g38 x1.2.2.2.2.1).bind fun r4 => (bif ((decide ((ByteArray.size (((r0 ++ r1) ++ r2) ++ r3)) ≤ (4611686018427387903 : Nat))) && (decide (r4.size ≤ (4611686018427387903 : Nat)))) then ((g38 x1.2.2.2.2.2.1).bind fun r5 => (bif ((decide ((ByteArray.size ((((r0 ++ r1) ++ r2) ++ r3) ++ r4)) ≤ (4611686018427387903 : Nat))) && (decide (r5.size ≤ (4611686018427387903 : Nat)))) then ((g37 (IntKind.wrap .u64 x1.2.2.2.2.2.2.1)).bind fun r6 => (bif ((decide ((ByteArray.size (((((r0 ++ r1) ++ r2) ++ r3) ++ r4) ++ r5)) ≤ (4611686018427387903 : Nat))) && (decide (r6.size ≤ (4611686018427387903 : Nat)))) then ((g37 (IntKind.wrap .u64 (x1.2.2.2.2.2.2.2.1.length : Int))).bind fun r7 => (bif ((decide ((ByteArray.size ((((((r0 ++ r1) ++ r2) ++ r3) ++ r4) ++ r5) ++ r6)) ≤ (4611686018427387903 : Nat))) && (decide (r7.size ≤ (4611686018427387903 : Nat)))) then ((s5 x0 (((((((r0 ++ r1) ++ r2) ++ r3) ++ r4) ++ r5) ++ r6) ++ r7) (0 : Int) x1).bind ret) else none)) else none)) else none)) else none)) else none)) else none)) else none)))
def s5c (ret : R → Option β) (x0 : ByteArray) (x1 : ByteArray) (x2 : Int) (x3 : D_api_Change) : Option β := (bif (decide (x2 < (x3.2.2.2.2.2.2.2.1.length : Int))) then (bif ((decide ((0 : Int) ≤ x2)) && (decide (x2 < (x3.2.2.2.2.2.2.2.1.length : Int)))) then ((g38 (elem Ty.str x3.2.2.2.2.2.2.2.1 x2)).bind fun r0 => (bif ((decide (x1.size ≤ (4611686018427387903 : Nat))) && (decide (r0.size ≤ (4611686018427387903 : Nat)))) then ((s5 x0 (x1 ++ r0) (IntKind.wrap .i64 (x2 + (1 : Int))) x3).bind ret) else none)) else none) else (bif ((decide (x1.size ≤ (4611686018427387903 : Nat))) && (decide (x0.size ≤ (4611686018427387903 : Nat)))) then (ret ((x1 ++ x0), (0 : Int))) else none))
variable {g34} {g35} {g36} {g37} {g38} {s0} {s1} {s2} {s3} {s4} {s5}
theorem ev : EvA (env g34 g35 g36 g37 g38 s0 s1 s2 s3 s4 s5) [] [0] e (A (c s0 some)) := fun x y => Eq.trans (b := (A (c s0 fun r => some (e r))).G x y) (by kernel_rfl) (by simp only [A, c, bo, sum_bind, oa, os, on, ofs])
theorem s0_ev : EvA (env g34 g35 g36 g37 g38 s0 s1 s2 s3 s4 s5) [1, 0, 1] [1, 34] e (A_0 (s0c s1 some)) := fun x y => Eq.trans (b := (A_0 (s0c s1 fun r => some (e r))).G x y) (by kernel_rfl) (by simp only [A_0, s0c, bo, sum_bind, oa, os, on, ofs])
theorem s1_ev : EvA (env g34 g35 g36 g37 g38 s0 s1 s2 s3 s4 s5) [1, 1] [1] e (A_1 (s1c g34 s2 some)) := fun x y => Eq.trans (b := (A_1 (s1c g34 s2 fun r => some (e r))).G x y) (by kernel_rfl) (by simp only [A_1, s1c, bo, sum_bind, oa, os, on, ofs])
theorem s2_ev : EvA (env g34 g35 g36 g37 g38 s0 s1 s2 s3 s4 s5) [1, 0, 1, 1] [1, 51] e (A_2 (s2c s3 some)) := fun x y => Eq.trans (b := (A_2 (s2c s3 fun r => some (e r))).G x y) (by kernel_rfl) (by simp only [A_2, s2c, bo, sum_bind, oa, os, on, ofs])
theorem s3_ev : EvA (env g34 g35 g36 g37 g38 s0 s1 s2 s3 s4 s5) [1, 1, 1] [1] e (A_3 (s3c g35 g36 s4 some)) := fun x y => Eq.trans (b := (A_3 (s3c g35 g36 s4 fun r => some (e r))).G x y) (by kernel_rfl) (by simp only [A_3, s3c, bo, sum_bind, oa, os, on, ofs])
theorem s4_ev : EvA (env g34 g35 g36 g37 g38 s0 s1 s2 s3 s4 s5) [1, 1, 1, 1, 1, 1] [1, 6] e (A_4 (s4c g37 g38 s5 some)) := fun x y => Eq.trans (b := (A_4 (s4c g37 g38 s5 fun r => some (e r))).G x y) (by kernel_rfl) (by simp only [A_4, s4c, bo, sum_bind, oa, os, on, ofs])
theorem s5_ev : EvA (env g34 g35 g36 g37 g38 s0 s1 s2 s3 s4 s5) [4, 1, 0, 1, 1, 1, 1, 1, 1, 1, 1] [1, 6, 9, 10] e (A_5 (s5c g38 s5 some)) := fun x y => Eq.trans (b := (A_5 (s5c g38 s5 fun r => some (e r))).G x y) (by kernel_rfl) (by simp only [A_5, s5c, bo, sum_bind, oa, os, on, ofs])
end
mutual
def s0 : Nat → S0 R
 | 0, _, _ => none
 | k + 1, x0, x1 => s0c (s1 k) some x0 x1
def s1 : Nat → S1 R
 | 0, _ => none
 | k + 1, x0 => s1c (transomref14_long.f k) (s2 k) some x0
def s2 : Nat → S2 R
 | 0, _, _ => none
 | k + 1, x0, x1 => s2c (s3 k) some x0 x1
def s3 : Nat → S3 R
 | 0, _ => none
 | k + 1, x0 => s3c (transomref14_def.f k) (transomref09_Put.f k) (s4 k) some x0
def s4 : Nat → S4 R
 | 0, _, _ => none
 | k + 1, x0, x1 => s4c (transomref03_Uint.f k) (transomref03_Text.f k) (s5 k) some x0 x1
def s5 : Nat → S5 R
 | 0, _, _, _, _ => none
 | k + 1, x0, x1, x2, x3 => s5c (transomref03_Text.f k) (s5 k) some x0 x1 x2 x3
end
def f (k : Nat) (a0 : D_api_Change) : Option R := c (s0 k) some a0
noncomputable abbrev E (k : Nat) : FEnv := env (transomref14_long.f k) (transomref14_def.f k) (transomref09_Put.f k) (transomref03_Uint.f k) (transomref03_Text.f k) (s0 k) (s1 k) (s2 k) (s3 k) (s4 k) (s5 k)
theorem hE (k : Nat) : EnvOK (E k).toEnv := ctsOK (Lc (transomref14_long.ok k) (Lc (transomref14_def.ok k) (Lc (transomref09_Put.ok k) (Lc (transomref03_Uint.ok k) (Lc (transomref03_Text.ok k) L0)))))
theorem sk : ∀ k, ∀ s ∈ [sg0 (s0 k), sg1 (s1 k), sg2 (s2 k), sg3 (s3 k), sg4 (s4 k), sg5 (s5 k)], SegB prog f11 0 s
 | 0 => (Lc (sn (Lc (fun _ _ => rfl) L0)) (Lc (sn (Lc (fun _ _ => rfl) L0)) (Lc (sn (Lc (fun _ _ => rfl) L0)) (Lc (sn (Lc (fun _ _ => rfl) L0)) (Lc (sn (Lc (fun _ _ => rfl) L0)) (Lc (sn (Lc (fun _ _ => rfl) L0)) L0))))))
 | k + 1 => (Lc (sg_ok (hE k) (sk k) (Lc s0_ev L0)) (Lc (sg_ok (hE k) (sk k) (Lc s1_ev L0)) (Lc (sg_ok (hE k) (sk k) (Lc s2_ev L0)) (Lc (sg_ok (hE k) (sk k) (Lc s3_ev L0)) (Lc (sg_ok (hE k) (sk k) (Lc s4_ev L0)) (Lc (sg_ok (hE k) (sk k) (Lc s5_ev L0)) L0))))))
theorem ok (k : Nat) : CtOK prog 11 (ct (f k)) := fn_ok func11 rfl (by decide) (hE k) (sk k) (Lc ev L0)
end transomref14_PutChange
namespace transomref03_ReadUint
abbrev R : Type := Int × ByteArray × Int
def e (r : R) : Res := ⟨.tup [(.one (.d (.int .u64) r.1)), (.one (.d .str r.2.1)), (.one (.d (.int .i64) r.2.2))], []⟩
abbrev T (δ : Type) : Type := ByteArray → Option δ
abbrev A {δ : Type} (g : T δ) : Arm δ := ⟨[.d .str], [], fun x y => g x.1⟩
abbrev G : Type := T R
def ct (g : G) : Ct := mkCt 0 [] [A g] e
abbrev S0 (δ : Type) : Type := ByteArray → Int → Int → Option δ
abbrev A_0 {δ : Type} (s : S0 δ) : Arm δ := ⟨[.d .str, .d (.int .u64), .d (.int .i64)], [], fun x y => s x.1 x.2.1 x.2.2.1⟩
abbrev S1 (δ : Type) : Type := ByteArray → Int → Int → Int → Bool → Option δ
abbrev A_1 {δ : Type} (s : S1 δ) : Arm δ := ⟨[.d .str, .d (.int .u64), .d (.int .i64), .d (.int .u64), .d .bool], [], fun x y => s x.1 x.2.1 x.2.2.1 x.2.2.2.1 x.2.2.2.2.1⟩
abbrev S2 (δ : Type) : Type := ByteArray → Int → Int → Int → Option δ
abbrev A_2 {δ : Type} (s : S2 δ) : Arm δ := ⟨[.d .str, .d (.int .u64), .d (.int .i64), .d (.int .u64)], [], fun x y => s x.1 x.2.1 x.2.2.1 x.2.2.2.1⟩
abbrev S3 (δ : Type) : Type := ByteArray → Int → Int → Bool → Option δ
abbrev A_3 {δ : Type} (s : S3 δ) : Arm δ := ⟨[.d .str, .d (.int .u64), .d (.int .i64), .d .bool], [], fun x y => s x.1 x.2.1 x.2.2.1 x.2.2.2.1⟩
abbrev S4 (δ : Type) : Type := ByteArray → Int → Int → Option δ
abbrev A_4 {δ : Type} (s : S4 δ) : Arm δ := ⟨[.d .str, .d (.int .u64), .d (.int .i64)], [], fun x y => s x.1 x.2.1 x.2.2.1⟩
abbrev S5 (δ : Type) : Type := ByteArray → Int → Int → Option δ
abbrev A_5 {δ : Type} (s : S5 δ) : Arm δ := ⟨[.d .str, .d (.int .u64), .d (.int .i64)], [], fun x y => s x.1 x.2.1 x.2.2.1⟩
def sg0 (s : S0 R) : Seg := mkSg [4, 1, 0, 1, 1] [] [0, 5, 6] [A_0 s] e
def sg1 (s : S1 R) : Seg := mkSg [1, 0, 1, 1, 4, 0, 1, 5, 4, 1, 0, 1, 1] [] [0, 5, 6, 7, 25] [A_1 s] e
def sg2 (s : S2 R) : Seg := mkSg [1, 1, 1, 4, 0, 1, 5, 4, 1, 0, 1, 1] [] [0, 5, 6, 7] [A_2 s] e
def sg3 (s : S3 R) : Seg := mkSg [1, 0, 2, 1, 1, 1, 1, 1, 4, 0, 1, 5, 4, 1, 0, 1, 1] [] [0, 5, 6, 41] [A_3 s] e
def sg4 (s : S4 R) : Seg := mkSg [1, 2, 1, 1, 1, 1, 1, 4, 0, 1, 5, 4, 1, 0, 1, 1] [] [0, 5, 6] [A_4 s] e
def sg5 (s : S5 R) : Seg := mkSg [1, 1, 5, 4, 1, 0, 1, 1] [] [0, 5, 6] [A_5 s] e
section
variable {β : Type} (s0 : S0 R) (s1 : S1 R) (s2 : S2 R) (s3 : S3 R) (s4 : S4 R) (s5 : S5 R)
noncomputable abbrev env : FEnv := mkEnv prog f69 [] 0 [] [sg0 s0, sg1 s1, sg2 s2, sg3 s3, sg4 s4, sg5 s5]
def c (ret : R → Option β) (a0 : ByteArray) : Option β := ((s0 a0 (0 : Int) (0 : Int)).bind ret)
def s0c (ret : R → Option β) (x0 : ByteArray) (x1 : Int) (x2 : Int) : Option β := (bif (decide (x2 < (10 : Int))) then (bif (decide (x2 ≥ (x0.size : Int))) then (ret ((0 : Int), (ByteArray.mk (List.toArray [])), (3 : Int))) else (bif ((decide ((0 : Int) ≤ x2)) && (decide (x2 < (x0.size : Int)))) then (bif (x2 == (9 : Int)) then ((s1 x0 x1 x2 (IntKind.wrap .u64 (bt x0 x2)) (decide ((IntKind.wrap .u64 (bt x0 x2)) > (1 : Int)))).bind ret) else ((s1 x0 x1 x2 (IntKind.wrap .u64 (bt x0 x2)) false).bind ret)) else none)) else (ret ((0 : Int), (ByteArray.mk (List.toArray [])), (4 : Int))))
def s1c (ret : R → Option β) (x0 : ByteArray) (x1 : Int) (x2 : Int) (x3 : Int) (x4 : Bool) : Option β := (bif x4 then (ret ((0 : Int), (ByteArray.mk (List.toArray [])), (4 : Int))) else ((s2 x0 x1 x2 x3).bind ret))
def s2c (ret : R → Option β) (x0 : ByteArray) (x1 : Int) (x2 : Int) (x3 : Int) : Option β := (bif (decide ((0 : Int) ≤ (IntKind.wrap .u64 (IntKind.wrap .i64 ((7 : Int) * x2))))) then (bif (decide (x3 < (128 : Int))) then (bif (x3 == (0 : Int)) then ((s3 x0 (IntKind.wrap .u64 ((BitVec.toNat ((BitVec.ofInt (64 : Nat) x1) ||| (BitVec.ofInt (64 : Nat) (IntKind.wrap .u64 ((Int.tmod x3 (128 : Int)) * ((2 : Int) ^ (Min.min (Int.toNat (IntKind.wrap .u64 (IntKind.wrap .i64 ((7 : Int) * x2)))) (64 : Nat)))))))) : Int)) x2 (decide (x2 > (0 : Int)))).bind ret) else ((s3 x0 (IntKind.wrap .u64 ((BitVec.toNat ((BitVec.ofInt (64 : Nat) x1) ||| (BitVec.ofInt (64 : Nat) (IntKind.wrap .u64 ((Int.tmod x3 (128 : Int)) * ((2 : Int) ^ (Min.min (Int.toNat (IntKind.wrap .u64 (IntKind.wrap .i64 ((7 : Int) * x2)))) (64 : Nat)))))))) : Int)) x2 false).bind ret)) else ((s5 x0 (IntKind.wrap .u64 ((BitVec.toNat ((BitVec.ofInt (64 : Nat) x1) ||| (BitVec.ofInt (64 : Nat) (IntKind.wrap .u64 ((Int.tmod x3 (128 : Int)) * ((2 : Int) ^ (Min.min (Int.toNat (IntKind.wrap .u64 (IntKind.wrap .i64 ((7 : Int) * x2)))) (64 : Nat)))))))) : Int)) x2).bind ret)) else none)
def s3c (ret : R → Option β) (x0 : ByteArray) (x1 : Int) (x2 : Int) (x3 : Bool) : Option β := (bif x3 then (ret ((0 : Int), (ByteArray.mk (List.toArray [])), (4 : Int))) else ((s4 x0 x1 x2).bind ret))
def s4c (ret : R → Option β) (x0 : ByteArray) (x1 : Int) (x2 : Int) : Option β := (bif (((decide ((0 : Int) ≤ (IntKind.wrap .i64 (x2 + (1 : Int))))) && (decide ((IntKind.wrap .i64 (x2 + (1 : Int))) ≤ (x0.size : Int)))) && (decide ((x0.size : Int) ≤ (x0.size : Int)))) then (ret (x1, (ByteArray.extract x0 (Int.toNat (IntKind.wrap .i64 (x2 + (1 : Int)))) (Int.toNat (x0.size : Int))), (0 : Int))) else none)
def s5c (ret : R → Option β) (x0 : ByteArray) (x1 : Int) (x2 : Int) : Option β := ((s0 x0 x1 (IntKind.wrap .i64 (x2 + (1 : Int)))).bind ret)
variable {s0} {s1} {s2} {s3} {s4} {s5}
theorem ev : EvA (env s0 s1 s2 s3 s4 s5) [] [0] e (A (c s0 some)) := fun x y => Eq.trans (b := (A (c s0 fun r => some (e r))).G x y) (by kernel_rfl) (by simp only [A, c, bo, sum_bind, oa, os, on, ofs])
theorem s0_ev : EvA (env s0 s1 s2 s3 s4 s5) [4, 1, 0, 1, 1] [0, 5, 6] e (A_0 (s0c s1 some)) := fun x y => Eq.trans (b := (A_0 (s0c s1 fun r => some (e r))).G x y) (by kernel_rfl) (by simp only [A_0, s0c, bo, sum_bind, oa, os, on, ofs])
theorem s1_ev : EvA (env s0 s1 s2 s3 s4 s5) [1, 0, 1, 1, 4, 0, 1, 5, 4, 1, 0, 1, 1] [0, 5, 6, 7, 25] e (A_1 (s1c s2 some)) := fun x y => Eq.trans (b := (A_1 (s1c s2 fun r => some (e r))).G x y) (by kernel_rfl) (by simp only [A_1, s1c, bo, sum_bind, oa, os, on, ofs])
theorem s2_ev : EvA (env s0 s1 s2 s3 s4 s5) [1, 1, 1, 4, 0, 1, 5, 4, 1, 0, 1, 1] [0, 5, 6, 7] e (A_2 (s2c s3 s5 some)) := fun x y => Eq.trans (b := (A_2 (s2c s3 s5 fun r => some (e r))).G x y) (by kernel_rfl) (by simp only [A_2, s2c, bo, sum_bind, oa, os, on, ofs])
theorem s3_ev : EvA (env s0 s1 s2 s3 s4 s5) [1, 0, 2, 1, 1, 1, 1, 1, 4, 0, 1, 5, 4, 1, 0, 1, 1] [0, 5, 6, 41] e (A_3 (s3c s4 some)) := fun x y => Eq.trans (b := (A_3 (s3c s4 fun r => some (e r))).G x y) (by kernel_rfl) (by simp only [A_3, s3c, bo, sum_bind, oa, os, on, ofs])
theorem s4_ev : EvA (env s0 s1 s2 s3 s4 s5) [1, 2, 1, 1, 1, 1, 1, 4, 0, 1, 5, 4, 1, 0, 1, 1] [0, 5, 6] e (A_4 (s4c some)) := fun x y => Eq.trans (b := (A_4 (s4c fun r => some (e r))).G x y) (by kernel_rfl) (by simp only [A_4, s4c, bo, sum_bind, oa, os, on, ofs])
theorem s5_ev : EvA (env s0 s1 s2 s3 s4 s5) [1, 1, 5, 4, 1, 0, 1, 1] [0, 5, 6] e (A_5 (s5c s0 some)) := fun x y => Eq.trans (b := (A_5 (s5c s0 fun r => some (e r))).G x y) (by kernel_rfl) (by simp only [A_5, s5c, bo, sum_bind, oa, os, on, ofs])
end
mutual
def s0 : Nat → S0 R
 | 0, _, _, _ => none
 | k + 1, x0, x1, x2 => s0c (s1 k) some x0 x1 x2
def s1 : Nat → S1 R
 | 0, _, _, _, _, _ => none
 | k + 1, x0, x1, x2, x3, x4 => s1c (s2 k) some x0 x1 x2 x3 x4
def s2 : Nat → S2 R
 | 0, _, _, _, _ => none
 | k + 1, x0, x1, x2, x3 => s2c (s3 k) (s5 k) some x0 x1 x2 x3
def s3 : Nat → S3 R
 | 0, _, _, _, _ => none
 | k + 1, x0, x1, x2, x3 => s3c (s4 k) some x0 x1 x2 x3
def s4 : Nat → S4 R
 | 0, _, _, _ => none
 | k + 1, x0, x1, x2 => s4c  some x0 x1 x2
def s5 : Nat → S5 R
 | 0, _, _, _ => none
 | k + 1, x0, x1, x2 => s5c (s0 k) some x0 x1 x2
end
def f (k : Nat) (a0 : ByteArray) : Option R := c (s0 k) some a0
noncomputable abbrev E (k : Nat) : FEnv := env  (s0 k) (s1 k) (s2 k) (s3 k) (s4 k) (s5 k)
theorem hE (k : Nat) : EnvOK (E k).toEnv := ctsOK L0
theorem sk : ∀ k, ∀ s ∈ [sg0 (s0 k), sg1 (s1 k), sg2 (s2 k), sg3 (s3 k), sg4 (s4 k), sg5 (s5 k)], SegB prog f69 0 s
 | 0 => (Lc (sn (Lc (fun _ _ => rfl) L0)) (Lc (sn (Lc (fun _ _ => rfl) L0)) (Lc (sn (Lc (fun _ _ => rfl) L0)) (Lc (sn (Lc (fun _ _ => rfl) L0)) (Lc (sn (Lc (fun _ _ => rfl) L0)) (Lc (sn (Lc (fun _ _ => rfl) L0)) L0))))))
 | k + 1 => (Lc (sg_ok (hE k) (sk k) (Lc s0_ev L0)) (Lc (sg_ok (hE k) (sk k) (Lc s1_ev L0)) (Lc (sg_ok (hE k) (sk k) (Lc s2_ev L0)) (Lc (sg_ok (hE k) (sk k) (Lc s3_ev L0)) (Lc (sg_ok (hE k) (sk k) (Lc s4_ev L0)) (Lc (sg_ok (hE k) (sk k) (Lc s5_ev L0)) L0))))))
theorem ok (k : Nat) : CtOK prog 69 (ct (f k)) := fn_ok func69 rfl (by decide) (hE k) (sk k) (Lc ev L0)
end transomref03_ReadUint
namespace transomref14_below
abbrev R : Type := Int × ByteArray × Int
def e (r : R) : Res := ⟨.tup [(.one (.d (.int .i64) r.1)), (.one (.d .str r.2.1)), (.one (.d (.int .i64) r.2.2))], []⟩
abbrev T (δ : Type) : Type := ByteArray → Int → Option δ
abbrev A {δ : Type} (g : T δ) : Arm δ := ⟨[.d .str, .d (.int .u64)], [], fun x y => g x.1 x.2.1⟩
abbrev G : Type := T R
def ct (g : G) : Ct := mkCt 0 [] [A g] e
section
variable {β : Type} (g69 : transomref03_ReadUint.G)
noncomputable abbrev env : FEnv := mkEnv prog f43 [(69, transomref03_ReadUint.ct g69)] 0 [] []
def c (ret : R → Option β) (a0 : ByteArray) (a1 : Int) : Option β := ((g69 a0).bind fun r0 => (bif (r0.2.2 != (0 : Int)) then (ret ((0 : Int), (ByteArray.mk (List.toArray [])), r0.2.2)) else (bif (decide (r0.1 ≥ a1)) then (ret ((0 : Int), (ByteArray.mk (List.toArray [])), (1 : Int))) else (ret ((IntKind.wrap .i64 r0.1), r0.2.1, (0 : Int))))))
variable {g69}
theorem ev : EvA (env g69) [] [0, 1] e (A (c g69 some)) := fun x y => Eq.trans (b := (A (c g69 fun r => some (e r))).G x y) (by kernel_rfl) (by simp only [A, c, bo, sum_bind, oa, os, on, ofs])
end
def f (k : Nat) (a0 : ByteArray) (a1 : Int) : Option R := c (transomref03_ReadUint.f k) some a0 a1
noncomputable abbrev E (k : Nat) : FEnv := env (transomref03_ReadUint.f k) 
theorem hE (k : Nat) : EnvOK (E k).toEnv := ctsOK (Lc (transomref03_ReadUint.ok k) L0)
theorem ok (k : Nat) : CtOK prog 43 (ct (f k)) := fn_ok func43 rfl (by decide) (hE k) L0 (Lc ev L0)
end transomref14_below
namespace transomref03_ReadText
abbrev R : Type := ByteArray × ByteArray × Int
def e (r : R) : Res := ⟨.tup [(.one (.d .str r.1)), (.one (.d .str r.2.1)), (.one (.d (.int .i64) r.2.2))], []⟩
abbrev T (δ : Type) : Type := ByteArray → Option δ
abbrev A {δ : Type} (g : T δ) : Arm δ := ⟨[.d .str], [], fun x y => g x.1⟩
abbrev G : Type := T R
def ct (g : G) : Ct := mkCt 0 [] [A g] e
section
variable {β : Type} (g69 : transomref03_ReadUint.G)
noncomputable abbrev env : FEnv := mkEnv prog f55 [(69, transomref03_ReadUint.ct g69)] 0 [] []
def c (ret : R → Option β) (a0 : ByteArray) : Option β := ((g69 a0).bind fun r0 => (bif (r0.2.2 != (0 : Int)) then (ret ((ByteArray.mk (List.toArray [])), (ByteArray.mk (List.toArray [])), r0.2.2)) else (bif (decide (r0.1 > (IntKind.wrap .u64 (r0.2.1.size : Int)))) then (ret ((ByteArray.mk (List.toArray [])), (ByteArray.mk (List.toArray [])), (3 : Int))) else (bif ((true && (decide ((0 : Int) ≤ r0.1))) && (decide (r0.1 ≤ (r0.2.1.size : Int)))) then (bif (((decide ((0 : Int) ≤ r0.1)) && (decide (r0.1 ≤ (r0.2.1.size : Int)))) && (decide ((r0.2.1.size : Int) ≤ (r0.2.1.size : Int)))) then (ret ((ByteArray.extract r0.2.1 (0 : Nat) (Int.toNat r0.1)), (ByteArray.extract r0.2.1 (Int.toNat r0.1) (Int.toNat (r0.2.1.size : Int))), (0 : Int))) else none) else none))))
variable {g69}
theorem ev : EvA (env g69) [] [0] e (A (c g69 some)) := fun x y => Eq.trans (b := (A (c g69 fun r => some (e r))).G x y) (by kernel_rfl) (by simp only [A, c, bo, sum_bind, oa, os, on, ofs])
end
def f (k : Nat) (a0 : ByteArray) : Option R := c (transomref03_ReadUint.f k) some a0
noncomputable abbrev E (k : Nat) : FEnv := env (transomref03_ReadUint.f k) 
theorem hE (k : Nat) : EnvOK (E k).toEnv := ctsOK (Lc (transomref03_ReadUint.ok k) L0)
theorem ok (k : Nat) : CtOK prog 55 (ct (f k)) := fn_ok func55 rfl (by decide) (hE k) L0 (Lc ev L0)
end transomref03_ReadText
namespace transomref14_texts
abbrev R : Type := (List ByteArray) × ByteArray × Int
def e (r : R) : Res := ⟨.tup [(.one (.d (.sl .str) r.1)), (.one (.d .str r.2.1)), (.one (.d (.int .i64) r.2.2))], []⟩
abbrev T (δ : Type) : Type := ByteArray → Int → Option δ
abbrev A {δ : Type} (g : T δ) : Arm δ := ⟨[.d .str, .d (.int .i64)], [], fun x y => g x.1 x.2.1⟩
abbrev G : Type := T R
def ct (g : G) : Ct := mkCt 0 [] [A g] e
abbrev S0 (δ : Type) : Type := ByteArray → Int → Int → (List ByteArray) → Option δ
abbrev A_0 {δ : Type} (s : S0 δ) : Arm δ := ⟨[.d .str, .d (.int .i64), .k (.own 0), .d (.int .i64)], [.own .str false], fun x y => s x.1 x.2.1 x.2.2.2.1 y.1⟩
def sg0 (s : S0 R) : Seg := mkSg [4, 1, 0, 1, 1] [.own 7 .str] [0, 1, 7, 8] [A_0 s] e
section
variable {β : Type} (g55 : transomref03_ReadText.G) (s0 : S0 R)
noncomputable abbrev env : FEnv := mkEnv prog f44 [(55, transomref03_ReadText.ct g55)] 0 [] [sg0 s0]
def c (ret : R → Option β) (a0 : ByteArray) (a1 : Int) : Option β := ((s0 a0 a1 (0 : Int) []).bind ret)
def s0c (ret : R → Option β) (x0 : ByteArray) (x1 : Int) (x2 : Int) (x3 : List ByteArray) : Option β := (bif (decide (x2 < x1)) then ((g55 x0).bind fun r0 => (bif (r0.2.2 != (0 : Int)) then (ret ([], (ByteArray.mk (List.toArray [])), r0.2.2)) else (bif (decide (((x3.length + (1 : Nat)) * (16 : Nat)) ≤ (35184372088832 : Nat))) then ((s0 r0.2.1 x1 (IntKind.wrap .i64 (x2 + (1 : Int))) (x3 ++ [r0.1])).bind ret) else none))) else (ret (x3, x0, (0 : Int))))
variable {g55} {s0}
theorem ev : EvA (env g55 s0) [] [0, 1] e (A (c s0 some)) := fun x y => Eq.trans (b := (A (c s0 fun r => some (e r))).G x y) (by kernel_rfl) (by simp only [A, c, bo, sum_bind, oa, os, on, ofs])
theorem s0_ev : EvA (env g55 s0) [4, 1, 0, 1, 1] [0, 1, 7, 8] e (A_0 (s0c g55 s0 some)) := fun x y => Eq.trans (b := (A_0 (s0c g55 s0 fun r => some (e r))).G x y) (by kernel_rfl) (by simp only [A_0, s0c, bo, sum_bind, oa, os, on, ofs])
end
def s0 : Nat → S0 R
 | 0, _, _, _, _ => none
 | k + 1, x0, x1, x2, x3 => s0c (transomref03_ReadText.f k) (s0 k) some x0 x1 x2 x3
def f (k : Nat) (a0 : ByteArray) (a1 : Int) : Option R := c (s0 k) some a0 a1
noncomputable abbrev E (k : Nat) : FEnv := env (transomref03_ReadText.f k) (s0 k)
theorem hE (k : Nat) : EnvOK (E k).toEnv := ctsOK (Lc (transomref03_ReadText.ok k) L0)
theorem sk : ∀ k, ∀ s ∈ [sg0 (s0 k)], SegB prog f44 0 s
 | 0 => (Lc (sn (Lc (fun _ _ => rfl) L0)) L0)
 | k + 1 => (Lc (sg_ok (hE k) (sk k) (Lc s0_ev L0)) L0)
theorem ok (k : Nat) : CtOK prog 44 (ct (f k)) := fn_ok func44 rfl (by decide) (hE k) (sk k) (Lc ev L0)
end transomref14_texts
namespace transomref09_Small
abbrev R : Type := Int × ByteArray × Int
def e (r : R) : Res := ⟨.tup [(.one (.d (.int .i64) r.1)), (.one (.d .str r.2.1)), (.one (.d (.int .i64) r.2.2))], []⟩
abbrev T (δ : Type) : Type := ByteArray → Option δ
abbrev A {δ : Type} (g : T δ) : Arm δ := ⟨[.d .str], [], fun x y => g x.1⟩
abbrev G : Type := T R
def ct (g : G) : Ct := mkCt 0 [] [A g] e
section
variable {β : Type} (g69 : transomref03_ReadUint.G)
noncomputable abbrev env : FEnv := mkEnv prog f70 [(69, transomref03_ReadUint.ct g69)] 0 [] []
def c (ret : R → Option β) (a0 : ByteArray) : Option β := ((g69 a0).bind fun r0 => (bif (r0.2.2 != (0 : Int)) then (ret ((0 : Int), (ByteArray.mk (List.toArray [])), r0.2.2)) else (bif (decide (r0.1 > (100 : Int))) then (ret ((0 : Int), (ByteArray.mk (List.toArray [])), (1 : Int))) else (ret ((IntKind.wrap .i64 r0.1), r0.2.1, (0 : Int))))))
variable {g69}
theorem ev : EvA (env g69) [] [0] e (A (c g69 some)) := fun x y => Eq.trans (b := (A (c g69 fun r => some (e r))).G x y) (by kernel_rfl) (by simp only [A, c, bo, sum_bind, oa, os, on, ofs])
end
def f (k : Nat) (a0 : ByteArray) : Option R := c (transomref03_ReadUint.f k) some a0
noncomputable abbrev E (k : Nat) : FEnv := env (transomref03_ReadUint.f k) 
theorem hE (k : Nat) : EnvOK (E k).toEnv := ctsOK (Lc (transomref03_ReadUint.ok k) L0)
theorem ok (k : Nat) : CtOK prog 70 (ct (f k)) := fn_ok func70 rfl (by decide) (hE k) L0 (Lc ev L0)
end transomref09_Small
namespace transomref05_fixed
def e (r : Int) : Res := ⟨.v (.one (.d (.int .i64) r)), []⟩
abbrev T (δ : Type) : Type := Int → Option δ
abbrev A {δ : Type} (g : T δ) : Arm δ := ⟨[.d (.int .i64)], [], fun x y => g x.1⟩
abbrev G : Type := T Int
def ct (g : G) : Ct := mkCt 0 [] [A g] e
section
variable {β : Type} 
noncomputable abbrev env : FEnv := mkEnv prog f122 [] 0 [] []
def c (ret : Int → Option β) (a0 : Int) : Option β := (bif (a0 == (1 : Int)) then (ret ((1 : Int))) else (bif (a0 == (2 : Int)) then (bif (a0 == (2 : Int)) then (ret ((8 : Int))) else (ret ((0 : Int)))) else (bif (a0 == (3 : Int)) then (ret ((8 : Int))) else (ret ((0 : Int))))))
theorem ev : EvA (env) [] [0] e (A (c some)) := fun x y => Eq.trans (b := (A (c fun r => some (e r))).G x y) (by kernel_rfl) (by simp only [A, c, bo, sum_bind, oa, os, on, ofs])
end
def f (k : Nat) (a0 : Int) : Option Int := c  some a0
noncomputable abbrev E (k : Nat) : FEnv := env  
theorem hE (k : Nat) : EnvOK (E k).toEnv := ctsOK L0
theorem ok (k : Nat) : CtOK prog 122 (ct (f k)) := fn_ok func122 rfl (by decide) (hE k) L0 (Lc ev L0)
end transomref05_fixed
namespace transomref05_Number
def e (r : Int) : Res := ⟨.v (.one (.d (.int .u64) r)), []⟩
abbrev T (δ : Type) : Type := ByteArray → Option δ
abbrev A {δ : Type} (g : T δ) : Arm δ := ⟨[.d .str], [], fun x y => g x.1⟩
abbrev G : Type := T Int
def ct (g : G) : Ct := mkCt 0 [] [A g] e
abbrev S0 (δ : Type) : Type := ByteArray → Int → Int → Option δ
abbrev A_0 {δ : Type} (s : S0 δ) : Arm δ := ⟨[.d .str, .d (.int .u64), .d (.int .i64)], [], fun x y => s x.1 x.2.1 x.2.2.1⟩
def sg0 (s : S0 Int) : Seg := mkSg [4, 1, 0, 1, 1] [] [0, 3, 4] [A_0 s] e
section
variable {β : Type} (s0 : S0 Int)
noncomputable abbrev env : FEnv := mkEnv prog f123 [] 0 [] [sg0 s0]
def c (ret : Int → Option β) (a0 : ByteArray) : Option β := ((s0 a0 (0 : Int) (0 : Int)).bind ret)
def s0c (ret : Int → Option β) (x0 : ByteArray) (x1 : Int) (x2 : Int) : Option β := (bif (decide (x2 < (8 : Int))) then (bif ((decide ((0 : Int) ≤ x2)) && (decide (x2 < (x0.size : Int)))) then ((s0 x0 (IntKind.wrap .u64 ((BitVec.toNat ((BitVec.ofInt (64 : Nat) (IntKind.wrap .u64 (x1 * (256 : Int)))) ||| (BitVec.ofInt (64 : Nat) (IntKind.wrap .u64 (bt x0 x2))))) : Int)) (IntKind.wrap .i64 (x2 + (1 : Int)))).bind ret) else none) else (ret (x1)))
variable {s0}
theorem ev : EvA (env s0) [] [0] e (A (c s0 some)) := fun x y => Eq.trans (b := (A (c s0 fun r => some (e r))).G x y) (by kernel_rfl) (by simp only [A, c, bo, sum_bind, oa, os, on, ofs])
theorem s0_ev : EvA (env s0) [4, 1, 0, 1, 1] [0, 3, 4] e (A_0 (s0c s0 some)) := fun x y => Eq.trans (b := (A_0 (s0c s0 fun r => some (e r))).G x y) (by kernel_rfl) (by simp only [A_0, s0c, bo, sum_bind, oa, os, on, ofs])
end
def s0 : Nat → S0 Int
 | 0, _, _, _ => none
 | k + 1, x0, x1, x2 => s0c (s0 k) some x0 x1 x2
def f (k : Nat) (a0 : ByteArray) : Option Int := c (s0 k) some a0
noncomputable abbrev E (k : Nat) : FEnv := env  (s0 k)
theorem hE (k : Nat) : EnvOK (E k).toEnv := ctsOK L0
theorem sk : ∀ k, ∀ s ∈ [sg0 (s0 k)], SegB prog f123 0 s
 | 0 => (Lc (sn (Lc (fun _ _ => rfl) L0)) L0)
 | k + 1 => (Lc (sg_ok (hE k) (sk k) (Lc s0_ev L0)) L0)
theorem ok (k : Nat) : CtOK prog 123 (ct (f k)) := fn_ok func123 rfl (by decide) (hE k) (sk k) (Lc ev L0)
end transomref05_Number
namespace transomref02_Back
abbrev R : Type := Int × Bool
def e (r : R) : Res := ⟨.tup [(.one (.d (.int .u64) r.1)), (.one (.d .bool r.2))], []⟩
abbrev T (δ : Type) : Type := Int → Option δ
abbrev A {δ : Type} (g : T δ) : Arm δ := ⟨[.d (.int .u64)], [], fun x y => g x.1⟩
abbrev G : Type := T R
def ct (g : G) : Ct := mkCt 0 [] [A g] e
section
variable {β : Type} (g104 : transomref02_Canon.G)
noncomputable abbrev env : FEnv := mkEnv prog f124 [(104, transomref02_Canon.ct g104)] 0 [] []
def c (ret : R → Option β) (a0 : Int) : Option β := (bif ((Int.fdiv a0 (9223372036854775808 : Int)) == (1 : Int)) then ((g104 (IntKind.wrap .u64 ((BitVec.toNat ((BitVec.ofInt (64 : Nat) a0) &&& (BitVec.ofInt (64 : Nat) (9223372036854775807 : Int)))) : Int))).bind fun r0 => (bif (r0 != (IntKind.wrap .u64 ((BitVec.toNat ((BitVec.ofInt (64 : Nat) a0) &&& (BitVec.ofInt (64 : Nat) (9223372036854775807 : Int)))) : Int))) then (ret ((0 : Int), false)) else (ret ((IntKind.wrap .u64 ((BitVec.toNat ((BitVec.ofInt (64 : Nat) a0) &&& (BitVec.ofInt (64 : Nat) (9223372036854775807 : Int)))) : Int)), true)))) else ((g104 (IntKind.wrap .u64 ((BitVec.toNat ((BitVec.ofInt (64 : Nat) (18446744073709551615 : Int)) ^^^ (BitVec.ofInt (64 : Nat) a0))) : Int))).bind fun r1 => (bif (r1 != (IntKind.wrap .u64 ((BitVec.toNat ((BitVec.ofInt (64 : Nat) (18446744073709551615 : Int)) ^^^ (BitVec.ofInt (64 : Nat) a0))) : Int))) then (ret ((0 : Int), false)) else (ret ((IntKind.wrap .u64 ((BitVec.toNat ((BitVec.ofInt (64 : Nat) (18446744073709551615 : Int)) ^^^ (BitVec.ofInt (64 : Nat) a0))) : Int)), true)))))
variable {g104}
theorem ev : EvA (env g104) [] [0] e (A (c g104 some)) := fun x y => Eq.trans (b := (A (c g104 fun r => some (e r))).G x y) (by kernel_rfl) (by simp only [A, c, bo, sum_bind, oa, os, on, ofs])
end
def f (k : Nat) (a0 : Int) : Option R := c (transomref02_Canon.f k) some a0
noncomputable abbrev E (k : Nat) : FEnv := env (transomref02_Canon.f k) 
theorem hE (k : Nat) : EnvOK (E k).toEnv := ctsOK (Lc (transomref02_Canon.ok k) L0)
theorem ok (k : Nat) : CtOK prog 124 (ct (f k)) := fn_ok func124 rfl (by decide) (hE k) L0 (Lc ev L0)
end transomref02_Back
namespace transomref05_plain
abbrev R : Type := ByteArray × ByteArray × Int
def e (r : R) : Res := ⟨.tup [(.one (.d .str r.1)), (.one (.d .str r.2.1)), (.one (.d (.int .i64) r.2.2))], []⟩
abbrev T (δ : Type) : Type := ByteArray → Option δ
abbrev A {δ : Type} (g : T δ) : Arm δ := ⟨[.d .str], [], fun x y => g x.1⟩
abbrev G : Type := T R
def ct (g : G) : Ct := mkCt 0 [] [A g] e
abbrev S0 (δ : Type) : Type := ByteArray → Int → (List Int) → Option δ
abbrev A_0 {δ : Type} (s : S0 δ) : Arm δ := ⟨[.d .str, .k (.own 0), .d (.int .i64)], [.own (.int .u8) false], fun x y => s x.1 x.2.2.1 y.1⟩
abbrev S1 (δ : Type) : Type := ByteArray → Int → (List Int) → Option δ
abbrev A_1 {δ : Type} (s : S1 δ) : Arm δ := ⟨[.d .str, .k (.own 0), .d (.int .i64)], [.own (.int .u8) false], fun x y => s x.1 x.2.2.1 y.1⟩
def sg0 (s : S0 R) : Seg := mkSg [4, 1, 0, 1, 1] [.own 5 (.int .u8)] [0, 5, 6] [A_0 s] e
def sg1 (s : S1 R) : Seg := mkSg [1, 1, 5, 4, 1, 0, 1, 1] [] [0, 5, 6] [A_1 s] e
section
variable {β : Type} (s0 : S0 R) (s1 : S1 R)
noncomputable abbrev env : FEnv := mkEnv prog f125 [] 0 [] [sg0 s0, sg1 s1]
def c (ret : R → Option β) (a0 : ByteArray) : Option β := ((s0 a0 (0 : Int) []).bind ret)
def s0c (ret : R → Option β) (x0 : ByteArray) (x1 : Int) (x2 : List Int) : Option β := (bif (decide (x1 < (x0.size : Int))) then (bif ((decide ((0 : Int) ≤ x1)) && (decide (x1 < (x0.size : Int)))) then (bif ((bt x0 x1) != (0 : Int)) then (bif ((decide ((0 : Int) ≤ x1)) && (decide (x1 < (x0.size : Int)))) then (bif (decide (((x2.length + (1 : Nat)) * (1 : Nat)) ≤ (35184372088832 : Nat))) then ((s1 x0 x1 (x2 ++ [(bt x0 x1)])).bind ret) else none) else none) else (bif ((IntKind.wrap .i64 (x1 + (1 : Int))) == (x0.size : Int)) then (ret ((ByteArray.mk (List.toArray [])), (ByteArray.mk (List.toArray [])), (3 : Int))) else (bif ((decide ((0 : Int) ≤ (IntKind.wrap .i64 (x1 + (1 : Int))))) && (decide ((IntKind.wrap .i64 (x1 + (1 : Int))) < (x0.size : Int)))) then (bif ((bt x0 (IntKind.wrap .i64 (x1 + (1 : Int)))) == (0 : Int)) then (bif (((decide ((0 : Int) ≤ (IntKind.wrap .i64 (x1 + (2 : Int))))) && (decide ((IntKind.wrap .i64 (x1 + (2 : Int))) ≤ (x0.size : Int)))) && (decide ((x0.size : Int) ≤ (x0.size : Int)))) then (ret ((ByteArray.mk (List.toArray (List.map (fun n => (UInt8.ofNat (Int.toNat n))) x2))), (ByteArray.extract x0 (Int.toNat (IntKind.wrap .i64 (x1 + (2 : Int)))) (Int.toNat (x0.size : Int))), (0 : Int))) else none) else (bif ((decide ((0 : Int) ≤ (IntKind.wrap .i64 (x1 + (1 : Int))))) && (decide ((IntKind.wrap .i64 (x1 + (1 : Int))) < (x0.size : Int)))) then (bif ((bt x0 (IntKind.wrap .i64 (x1 + (1 : Int)))) != (255 : Int)) then (ret ((ByteArray.mk (List.toArray [])), (ByteArray.mk (List.toArray [])), (4 : Int))) else (bif (decide (((x2.length + (1 : Nat)) * (1 : Nat)) ≤ (35184372088832 : Nat))) then ((s1 x0 (IntKind.wrap .i64 (x1 + (1 : Int))) (x2 ++ [(0 : Int)])).bind ret) else none)) else none)) else none))) else none) else (ret ((ByteArray.mk (List.toArray [])), (ByteArray.mk (List.toArray [])), (3 : Int))))
def s1c (ret : R → Option β) (x0 : ByteArray) (x1 : Int) (x2 : List Int) : Option β := ((s0 x0 (IntKind.wrap .i64 (x1 + (1 : Int))) x2).bind ret)
variable {s0} {s1}
theorem ev : EvA (env s0 s1) [] [0] e (A (c s0 some)) := fun x y => Eq.trans (b := (A (c s0 fun r => some (e r))).G x y) (by kernel_rfl) (by simp only [A, c, bo, sum_bind, oa, os, on, ofs])
theorem s0_ev : EvA (env s0 s1) [4, 1, 0, 1, 1] [0, 5, 6] e (A_0 (s0c s1 some)) := fun x y => Eq.trans (b := (A_0 (s0c s1 fun r => some (e r))).G x y) (by kernel_rfl) (by simp only [A_0, s0c, bo, sum_bind, oa, os, on, ofs])
theorem s1_ev : EvA (env s0 s1) [1, 1, 5, 4, 1, 0, 1, 1] [0, 5, 6] e (A_1 (s1c s0 some)) := fun x y => Eq.trans (b := (A_1 (s1c s0 fun r => some (e r))).G x y) (by kernel_rfl) (by simp only [A_1, s1c, bo, sum_bind, oa, os, on, ofs])
end
mutual
def s0 : Nat → S0 R
 | 0, _, _, _ => none
 | k + 1, x0, x1, x2 => s0c (s1 k) some x0 x1 x2
def s1 : Nat → S1 R
 | 0, _, _, _ => none
 | k + 1, x0, x1, x2 => s1c (s0 k) some x0 x1 x2
end
def f (k : Nat) (a0 : ByteArray) : Option R := c (s0 k) some a0
noncomputable abbrev E (k : Nat) : FEnv := env  (s0 k) (s1 k)
theorem hE (k : Nat) : EnvOK (E k).toEnv := ctsOK L0
theorem sk : ∀ k, ∀ s ∈ [sg0 (s0 k), sg1 (s1 k)], SegB prog f125 0 s
 | 0 => (Lc (sn (Lc (fun _ _ => rfl) L0)) (Lc (sn (Lc (fun _ _ => rfl) L0)) L0))
 | k + 1 => (Lc (sg_ok (hE k) (sk k) (Lc s0_ev L0)) (Lc (sg_ok (hE k) (sk k) (Lc s1_ev L0)) L0))
theorem ok (k : Nat) : CtOK prog 125 (ct (f k)) := fn_ok func125 rfl (by decide) (hE k) (sk k) (Lc ev L0)
end transomref05_plain
end Go.Proofs.YtaehpfmnejeddaaGreatDoor.Aev
