import Derived.Test.YtaehpfmnejeddaaGreatDoorTys
import Derived.Test.YtaehpfmnejeddaaGreatDoorProg
import Derived.Laws.Externs
import Derived.Lib.Bytealg
import Derived.Test.YtaehpfmnejeddaaGreatDoorF0
import Derived.Test.YtaehpfmnejeddaaGreatDoorF1
import Derived.Test.YtaehpfmnejeddaaGreatDoorF2
/- By a program of this session (AEV): functions of the program as plain functions, and that the machine does what they say. -/
namespace Go.Proofs.YtaehpfmnejeddaaGreatDoor.Aev
set_option linter.unusedVariables false
set_option linter.unusedSimpArgs false
set_option maxRecDepth 100000
set_option maxHeartbeats 4000000
open Go Go.Proofs.Tryz
namespace ops_PutChange
abbrev R : Type := ByteArray × Int
def e (r : R) : Res := ⟨.tup [(.one (.d .str r.1)), (.one (.d (.int .i64) r.2))], []⟩
abbrev T (δ : Type) : Type := D_api_Change → Option δ
abbrev A {δ : Type} (g : T δ) : Arm δ := ⟨[.s T_api_Change], [], fun x y => g x.1.1⟩
abbrev G : Type := T R
def ct (g : G) : Ct := mkCt 0 [] [A g] e
abbrev S0 (δ : Type) : Type := ByteArray → D_api_Change → Option δ
abbrev A_0 {δ : Type} (s : S0 δ) : Arm δ := ⟨[.k (.ptr 0 0), .d .str], [.box [.g T_api_Change]], fun x y => s x.2.1 y.1.1⟩
abbrev S1 (δ : Type) : Type := ByteArray → ByteArray → (List ByteArray) → Int → Int → Option δ
abbrev A_1 {δ : Type} (s : S1 δ) : Arm δ := ⟨[.d .str, .d .str, .d (.sl .str), .d (.int .i64), .d (.int .i64)], [], fun x y => s x.1 x.2.1 x.2.2.1 x.2.2.2.1 x.2.2.2.2.1⟩
def sg0 (s : S0 R) : Seg := mkSg [1, 1, 1, 1] [] [1, 5] [A_0 s] e
def sg1 (s : S1 R) : Seg := mkSg [4, 1, 0, 1, 1, 1, 1, 1, 1, 1] [] [5, 10, 63, 64, 65] [A_1 s] e
section
variable {β : Type} (g28 : ops_check.G) (g29 : ops_def.G) (g30 : schema_Put.G) (g31 : pack_Uint.G) (g32_0 : ops_texts.G0) (g32_1 : ops_texts.G1) (g33 : pack_Text.G) (s0 : S0 R) (s1 : S1 R)
noncomputable abbrev env : FEnv := mkEnv prog f10 [(28, ops_check.ct g28), (29, ops_def.ct g29), (30, schema_Put.ct g30), (31, pack_Uint.ct g31), (32, ops_texts.ct g32_0 g32_1), (33, pack_Text.ct g33)] 0 [] [sg0 s0, sg1 s1]
def c (ret : R → Option β) (a0 : D_api_Change) : Option β := ((g28 a0).bind fun r0 => (bif (r0 != (0 : Int)) then (ret ((ByteArray.mk (List.toArray [])), r0)) else ((g29 a0).bind fun r1 => (bif r1.2.2.2 then ((g30 r1.1 r1.2.1 r1.2.2.1).bind fun r2 => (bif (r2.2 != (0 : Int)) then (ret ((ByteArray.mk (List.toArray [])), r2.2)) else ((s0 r2.1 a0).bind ret))) else ((s0 (ByteArray.mk (List.toArray [])) a0).bind ret)))))
def s0c (ret : R → Option β) (x0 : ByteArray) (x1 : D_api_Change) : Option β := ((g31 (IntKind.wrap .u64 x1.1)).bind fun r0 => ((g32_0 x1).bind fun r1 => ((g33 r1.2.1).bind fun r2 => (bif ((decide (r0.size ≤ (4611686018427387903 : Nat))) && (decide (r2.size ≤ (4611686018427387903 : Nat)))) then ((g33 r1.2.2.1).bind fun r3 => (bif ((decide ((ByteArray.size (r0 ++ r2)) ≤ (4611686018427387903 : Nat))) && (decide (r3.size ≤ (4611686018427387903 : Nat)))) then ((g33 r1.2.2.2.1).bind fun r4 => (bif ((decide ((ByteArray.size ((r0 ++ r2) ++ r3)) ≤ (4611686018427387903 : Nat))) && (decide (r4.size ≤ (4611686018427387903 : Nat)))) then ((g33 r1.2.2.2.2.1).bind fun r5 => (bif ((decide ((ByteArray.size (((r0 ++ r2) ++ r3) ++ r4)) ≤ (4611686018427387903 : Nat))) && (decide (r5.size ≤ (4611686018427387903 : Nat)))) then ((g33 r1.2.2.2.2.2.1).bind fun r6 => (bif ((decide ((ByteArray.size ((((r0 ++ r2) ++ r3) ++ r4) ++ r5)) ≤ (4611686018427387903 : Nat))) && (decide (r6.size ≤ (4611686018427387903 : Nat)))) then ((g31 (IntKind.wrap .u64 r1.2.2.2.2.2.2.1)).bind fun r7 => ((g31 (IntKind.wrap .u64 (r1.2.2.2.2.2.2.2.1.length : Int))).bind fun r8 => (bif ((decide (r7.size ≤ (4611686018427387903 : Nat))) && (decide (r8.size ≤ (4611686018427387903 : Nat)))) then (bif ((decide ((ByteArray.size (((((r0 ++ r2) ++ r3) ++ r4) ++ r5) ++ r6)) ≤ (4611686018427387903 : Nat))) && (decide ((ByteArray.size (r7 ++ r8)) ≤ (4611686018427387903 : Nat)))) then ((s1 x0 ((((((r0 ++ r2) ++ r3) ++ r4) ++ r5) ++ r6) ++ (r7 ++ r8)) r1.2.2.2.2.2.2.2.1 (r1.2.2.2.2.2.2.2.1.length : Int) (0 : Int)).bind ret) else none) else none))) else none)) else none)) else none)) else none)) else none))))
def s1c (ret : R → Option β) (x0 : ByteArray) (x1 : ByteArray) (x2 : List ByteArray) (x3 : Int) (x4 : Int) : Option β := (bif (decide (x4 < x3)) then (bif ((decide ((0 : Int) ≤ x4)) && (decide (x4 < (x2.length : Int)))) then ((g33 (elem Ty.str x2 x4)).bind fun r0 => (bif ((decide (x1.size ≤ (4611686018427387903 : Nat))) && (decide (r0.size ≤ (4611686018427387903 : Nat)))) then ((s1 x0 (x1 ++ r0) x2 x3 (IntKind.wrap .i64 (x4 + (1 : Int)))).bind ret) else none)) else none) else (bif ((decide (x1.size ≤ (4611686018427387903 : Nat))) && (decide (x0.size ≤ (4611686018427387903 : Nat)))) then (ret ((x1 ++ x0), (0 : Int))) else none))
variable {g28} {g29} {g30} {g31} {g32_0} {g32_1} {g33} {s0} {s1}
theorem ev : EvA (env g28 g29 g30 g31 g32_0 g32_1 g33 s0 s1) [] [0] e (A (c g28 g29 g30 s0 some)) := fun x y => Eq.trans (b := (A (c g28 g29 g30 s0 fun r => some (e r))).G x y) (by kernel_rfl) (by simp only [A, c, bo, sum_bind, oa, os, on, ofs])
theorem s0_ev : EvA (env g28 g29 g30 g31 g32_0 g32_1 g33 s0 s1) [1, 1, 1, 1] [1, 5] e (A_0 (s0c g31 g32_0 g33 s1 some)) := fun x y => Eq.trans (b := (A_0 (s0c g31 g32_0 g33 s1 fun r => some (e r))).G x y) (by kernel_rfl) (by simp only [A_0, s0c, bo, sum_bind, oa, os, on, ofs])
theorem s1_ev : EvA (env g28 g29 g30 g31 g32_0 g32_1 g33 s0 s1) [4, 1, 0, 1, 1, 1, 1, 1, 1, 1] [5, 10, 63, 64, 65] e (A_1 (s1c g33 s1 some)) := fun x y => Eq.trans (b := (A_1 (s1c g33 s1 fun r => some (e r))).G x y) (by kernel_rfl) (by simp only [A_1, s1c, bo, sum_bind, oa, os, on, ofs])
end
mutual
def s0 : Nat → S0 R
 | 0, _, _ => none
 | k + 1, x0, x1 => s0c (pack_Uint.f k) (ops_texts.f0 k) (pack_Text.f k) (s1 k) some x0 x1
def s1 : Nat → S1 R
 | 0, _, _, _, _, _ => none
 | k + 1, x0, x1, x2, x3, x4 => s1c (pack_Text.f k) (s1 k) some x0 x1 x2 x3 x4
end
def f (k : Nat) (a0 : D_api_Change) : Option R := c (ops_check.f k) (ops_def.f k) (schema_Put.f k) (s0 k) some a0
noncomputable abbrev E (k : Nat) : FEnv := env (ops_check.f k) (ops_def.f k) (schema_Put.f k) (pack_Uint.f k) (ops_texts.f0 k) (ops_texts.f1 k) (pack_Text.f k) (s0 k) (s1 k)
theorem hE (k : Nat) : EnvOK (E k).toEnv := ctsOK (Lc (ops_check.ok k) (Lc (ops_def.ok k) (Lc (schema_Put.ok k) (Lc (pack_Uint.ok k) (Lc (ops_texts.ok k) (Lc (pack_Text.ok k) L0))))))
theorem sk : ∀ k, ∀ s ∈ [sg0 (s0 k), sg1 (s1 k)], SegB prog f10 0 s
 | 0 => (Lc (sn (Lc (fun _ _ => rfl) L0)) (Lc (sn (Lc (fun _ _ => rfl) L0)) L0))
 | k + 1 => (Lc (sg_ok (hE k) (sk k) (Lc s0_ev L0)) (Lc (sg_ok (hE k) (sk k) (Lc s1_ev L0)) L0))
theorem ok (k : Nat) : CtOK prog 10 (ct (f k)) := fn_ok func10 rfl (by decide) (hE k) (sk k) (Lc ev L0)
end ops_PutChange
namespace ops_reader_fail
abbrev R : Type := ByteArray × Int
def e (r : R) : Res := ⟨.tup [], [some (.box [(.d .str r.1), (.d (.int .i64) r.2)])]⟩
abbrev T (δ : Type) : Type := Int → ByteArray → Int → Option δ
abbrev A {δ : Type} (g : T δ) : Arm δ := ⟨[.k (.ptr 0 0), .d (.int .i64)], [.box [.g T_ops_reader]], fun x y => g x.2.1 y.1.1.1 y.1.1.2.1⟩
abbrev G : Type := T R
def ct (g : G) : Ct := mkCt 1 [] [A g] e
section
variable {β : Type} 
noncomputable abbrev env : FEnv := mkEnv prog f42 [] 1 [] []
def c (ret : R → Option β) (a0 : Int) (a1 : ByteArray) (a2 : Int) : Option β := (bif (a2 == (0 : Int)) then (ret (a1, a0)) else (ret (a1, a2)))
theorem ev : EvA (env) [] [0, 1] e (A (c some)) := fun x y => Eq.trans (b := (A (c fun r => some (e r))).G x y) (by kernel_rfl) (by simp only [A, c, bo, sum_bind, oa, os, on, ofs])
end
def f (k : Nat) (a0 : Int) (a1 : ByteArray) (a2 : Int) : Option R := c  some a0 a1 a2
noncomputable abbrev E (k : Nat) : FEnv := env  
theorem hE (k : Nat) : EnvOK (E k).toEnv := ctsOK L0
theorem ok (k : Nat) : CtOK prog 42 (ct (f k)) := fn_ok func42 rfl (by decide) (hE k) L0 (Lc ev L0)
end ops_reader_fail
namespace pack_ReadUint
abbrev R : Type := Int × ByteArray × Int
def e (r : R) : Res := ⟨.tup [(.one (.d (.int .u64) r.1)), (.one (.d .str r.2.1)), (.one (.d (.int .i64) r.2.2))], []⟩
abbrev T (δ : Type) : Type := ByteArray → Option δ
abbrev A {δ : Type} (g : T δ) : Arm δ := ⟨[.d .str], [], fun x y => g x.1⟩
abbrev G : Type := T R
def ct (g : G) : Ct := mkCt 0 [] [A g] e
abbrev S0 (δ : Type) : Type := ByteArray → Int → Int → Bool → Option δ
abbrev A_0 {δ : Type} (s : S0 δ) : Arm δ := ⟨[.d .str, .d (.int .u64), .d (.int .i64), .d .bool], [], fun x y => s x.1 x.2.1 x.2.2.1 x.2.2.2.1⟩
abbrev S1 (δ : Type) : Type := ByteArray → Int → Int → Option δ
abbrev A_1 {δ : Type} (s : S1 δ) : Arm δ := ⟨[.d .str, .d (.int .u64), .d (.int .i64)], [], fun x y => s x.1 x.2.1 x.2.2.1⟩
abbrev S2 (δ : Type) : Type := ByteArray → Int → Int → Option δ
abbrev A_2 {δ : Type} (s : S2 δ) : Arm δ := ⟨[.d .str, .d (.int .u64), .d (.int .i64)], [], fun x y => s x.1 x.2.1 x.2.2.1⟩
abbrev S3 (δ : Type) : Type := ByteArray → Int → Int → Bool → Option δ
abbrev A_3 {δ : Type} (s : S3 δ) : Arm δ := ⟨[.d .str, .d (.int .u64), .d (.int .i64), .d .bool], [], fun x y => s x.1 x.2.1 x.2.2.1 x.2.2.2.1⟩
abbrev S4 (δ : Type) : Type := ByteArray → Int → Int → Option δ
abbrev A_4 {δ : Type} (s : S4 δ) : Arm δ := ⟨[.d .str, .d (.int .u64), .d (.int .i64)], [], fun x y => s x.1 x.2.1 x.2.2.1⟩
def sg0 (s : S0 R) : Seg := mkSg [1, 3, 1, 4, 0, 1, 1, 1, 6, 1] [] [0, 5, 6, 13] [A_0 s] e
def sg1 (s : S1 R) : Seg := mkSg [1, 1, 1, 1, 6, 1] [] [0, 5, 6] [A_1 s] e
def sg2 (s : S2 R) : Seg := mkSg [100, 1] [] [0, 5, 6] [A_2 s] e
def sg3 (s : S3 R) : Seg := mkSg [1, 3, 1, 4, 0, 1, 100, 1] [] [0, 5, 6, 13] [A_3 s] e
def sg4 (s : S4 R) : Seg := mkSg [1, 1, 100, 1] [] [0, 5, 6] [A_4 s] e
section
variable {β : Type} (s0 : S0 R) (s1 : S1 R) (s2 : S2 R) (s3 : S3 R) (s4 : S4 R)
noncomputable abbrev env : FEnv := mkEnv prog f66 [] 0 [] [sg0 s0, sg1 s1, sg2 s2, sg3 s3, sg4 s4]
def c (ret : R → Option β) (a0 : ByteArray) : Option β := (bif ((0 : Int) == (a0.size : Int)) then (ret ((0 : Int), (ByteArray.mk (List.toArray [])), (3 : Int))) else ((s0 a0 (0 : Int) (0 : Int) false).bind ret))
def s0c (ret : R → Option β) (x0 : ByteArray) (x1 : Int) (x2 : Int) (x3 : Bool) : Option β := (bif x3 then (ret ((0 : Int), (ByteArray.mk (List.toArray [])), (4 : Int))) else ((s1 x0 x1 x2).bind ret))
def s1c (ret : R → Option β) (x0 : ByteArray) (x1 : Int) (x2 : Int) : Option β := (bif ((decide ((0 : Int) ≤ x2)) && (decide (x2 < (x0.size : Int)))) then (bif (decide ((0 : Int) ≤ (IntKind.wrap .i64 ((7 : Int) * x2)))) then (bif (decide ((bt x0 x2) > (127 : Int))) then ((s2 x0 (IntKind.wrap .u64 ((BitVec.toNat ((BitVec.ofInt (64 : Nat) x1) ||| (BitVec.ofInt (64 : Nat) (IntKind.wrap .u64 ((IntKind.wrap .u64 (IntKind.wrap .u8 ((BitVec.toNat ((BitVec.ofInt (8 : Nat) (bt x0 x2)) &&& (BitVec.ofInt (8 : Nat) (127 : Int)))) : Int))) * ((2 : Int) ^ (Min.min (Int.toNat (IntKind.wrap .i64 ((7 : Int) * x2))) (64 : Nat)))))))) : Int)) (IntKind.wrap .i64 (x2 + (1 : Int)))).bind ret) else (bif ((bt x0 x2) == (0 : Int)) then (bif (decide ((IntKind.wrap .i64 (x2 + (1 : Int))) > (1 : Int))) then (ret ((0 : Int), (ByteArray.mk (List.toArray [])), (4 : Int))) else (bif (((decide ((0 : Int) ≤ (IntKind.wrap .i64 (x2 + (1 : Int))))) && (decide ((IntKind.wrap .i64 (x2 + (1 : Int))) ≤ (x0.size : Int)))) && (decide ((x0.size : Int) ≤ (x0.size : Int)))) then (ret ((IntKind.wrap .u64 ((BitVec.toNat ((BitVec.ofInt (64 : Nat) x1) ||| (BitVec.ofInt (64 : Nat) (IntKind.wrap .u64 ((IntKind.wrap .u64 (IntKind.wrap .u8 ((BitVec.toNat ((BitVec.ofInt (8 : Nat) (bt x0 x2)) &&& (BitVec.ofInt (8 : Nat) (127 : Int)))) : Int))) * ((2 : Int) ^ (Min.min (Int.toNat (IntKind.wrap .i64 ((7 : Int) * x2))) (64 : Nat)))))))) : Int)), (ByteArray.extract x0 (Int.toNat (IntKind.wrap .i64 (x2 + (1 : Int)))) (Int.toNat (x0.size : Int))), (0 : Int))) else none)) else (bif (((decide ((0 : Int) ≤ (IntKind.wrap .i64 (x2 + (1 : Int))))) && (decide ((IntKind.wrap .i64 (x2 + (1 : Int))) ≤ (x0.size : Int)))) && (decide ((x0.size : Int) ≤ (x0.size : Int)))) then (ret ((IntKind.wrap .u64 ((BitVec.toNat ((BitVec.ofInt (64 : Nat) x1) ||| (BitVec.ofInt (64 : Nat) (IntKind.wrap .u64 ((IntKind.wrap .u64 (IntKind.wrap .u8 ((BitVec.toNat ((BitVec.ofInt (8 : Nat) (bt x0 x2)) &&& (BitVec.ofInt (8 : Nat) (127 : Int)))) : Int))) * ((2 : Int) ^ (Min.min (Int.toNat (IntKind.wrap .i64 ((7 : Int) * x2))) (64 : Nat)))))))) : Int)), (ByteArray.extract x0 (Int.toNat (IntKind.wrap .i64 (x2 + (1 : Int)))) (Int.toNat (x0.size : Int))), (0 : Int))) else none))) else none) else none)
def s2c (ret : R → Option β) (x0 : ByteArray) (x1 : Int) (x2 : Int) : Option β := (bif (x2 == (x0.size : Int)) then (ret ((0 : Int), (ByteArray.mk (List.toArray [])), (3 : Int))) else (bif (x2 == (9 : Int)) then (bif ((decide ((0 : Int) ≤ x2)) && (decide (x2 < (x0.size : Int)))) then ((s3 x0 x1 x2 (decide ((bt x0 x2) > (1 : Int)))).bind ret) else none) else ((s3 x0 x1 x2 false).bind ret)))
def s3c (ret : R → Option β) (x0 : ByteArray) (x1 : Int) (x2 : Int) (x3 : Bool) : Option β := (bif x3 then (ret ((0 : Int), (ByteArray.mk (List.toArray [])), (4 : Int))) else ((s4 x0 x1 x2).bind ret))
def s4c (ret : R → Option β) (x0 : ByteArray) (x1 : Int) (x2 : Int) : Option β := (bif ((decide ((0 : Int) ≤ x2)) && (decide (x2 < (x0.size : Int)))) then (bif (decide ((0 : Int) ≤ (IntKind.wrap .i64 ((7 : Int) * x2)))) then (bif (decide ((bt x0 x2) > (127 : Int))) then ((s2 x0 (IntKind.wrap .u64 ((BitVec.toNat ((BitVec.ofInt (64 : Nat) x1) ||| (BitVec.ofInt (64 : Nat) (IntKind.wrap .u64 ((IntKind.wrap .u64 (IntKind.wrap .u8 ((BitVec.toNat ((BitVec.ofInt (8 : Nat) (bt x0 x2)) &&& (BitVec.ofInt (8 : Nat) (127 : Int)))) : Int))) * ((2 : Int) ^ (Min.min (Int.toNat (IntKind.wrap .i64 ((7 : Int) * x2))) (64 : Nat)))))))) : Int)) (IntKind.wrap .i64 (x2 + (1 : Int)))).bind ret) else (bif ((bt x0 x2) == (0 : Int)) then (bif (decide ((IntKind.wrap .i64 (x2 + (1 : Int))) > (1 : Int))) then (ret ((0 : Int), (ByteArray.mk (List.toArray [])), (4 : Int))) else (bif (((decide ((0 : Int) ≤ (IntKind.wrap .i64 (x2 + (1 : Int))))) && (decide ((IntKind.wrap .i64 (x2 + (1 : Int))) ≤ (x0.size : Int)))) && (decide ((x0.size : Int) ≤ (x0.size : Int)))) then (ret ((IntKind.wrap .u64 ((BitVec.toNat ((BitVec.ofInt (64 : Nat) x1) ||| (BitVec.ofInt (64 : Nat) (IntKind.wrap .u64 ((IntKind.wrap .u64 (IntKind.wrap .u8 ((BitVec.toNat ((BitVec.ofInt (8 : Nat) (bt x0 x2)) &&& (BitVec.ofInt (8 : Nat) (127 : Int)))) : Int))) * ((2 : Int) ^ (Min.min (Int.toNat (IntKind.wrap .i64 ((7 : Int) * x2))) (64 : Nat)))))))) : Int)), (ByteArray.extract x0 (Int.toNat (IntKind.wrap .i64 (x2 + (1 : Int)))) (Int.toNat (x0.size : Int))), (0 : Int))) else none)) else (bif (((decide ((0 : Int) ≤ (IntKind.wrap .i64 (x2 + (1 : Int))))) && (decide ((IntKind.wrap .i64 (x2 + (1 : Int))) ≤ (x0.size : Int)))) && (decide ((x0.size : Int) ≤ (x0.size : Int)))) then (ret ((IntKind.wrap .u64 ((BitVec.toNat ((BitVec.ofInt (64 : Nat) x1) ||| (BitVec.ofInt (64 : Nat) (IntKind.wrap .u64 ((IntKind.wrap .u64 (IntKind.wrap .u8 ((BitVec.toNat ((BitVec.ofInt (8 : Nat) (bt x0 x2)) &&& (BitVec.ofInt (8 : Nat) (127 : Int)))) : Int))) * ((2 : Int) ^ (Min.min (Int.toNat (IntKind.wrap .i64 ((7 : Int) * x2))) (64 : Nat)))))))) : Int)), (ByteArray.extract x0 (Int.toNat (IntKind.wrap .i64 (x2 + (1 : Int)))) (Int.toNat (x0.size : Int))), (0 : Int))) else none))) else none) else none)
variable {s0} {s1} {s2} {s3} {s4}
theorem ev : EvA (env s0 s1 s2 s3 s4) [] [0] e (A (c s0 some)) := fun x y => Eq.trans (b := (A (c s0 fun r => some (e r))).G x y) (by kernel_rfl) (by simp only [A, c, bo, sum_bind, oa, os, on, ofs])
theorem s0_ev : EvA (env s0 s1 s2 s3 s4) [1, 3, 1, 4, 0, 1, 1, 1, 6, 1] [0, 5, 6, 13] e (A_0 (s0c s1 some)) := fun x y => Eq.trans (b := (A_0 (s0c s1 fun r => some (e r))).G x y) (by kernel_rfl) (by simp only [A_0, s0c, bo, sum_bind, oa, os, on, ofs])
theorem s1_ev : EvA (env s0 s1 s2 s3 s4) [1, 1, 1, 1, 6, 1] [0, 5, 6] e (A_1 (s1c s2 some)) := fun x y => Eq.trans (b := (A_1 (s1c s2 fun r => some (e r))).G x y) (by kernel_rfl) (by simp only [A_1, s1c, bo, sum_bind, oa, os, on, ofs])
theorem s2_ev : EvA (env s0 s1 s2 s3 s4) [100, 1] [0, 5, 6] e (A_2 (s2c s3 some)) := fun x y => Eq.trans (b := (A_2 (s2c s3 fun r => some (e r))).G x y) (by kernel_rfl) (by simp only [A_2, s2c, bo, sum_bind, oa, os, on, ofs])
theorem s3_ev : EvA (env s0 s1 s2 s3 s4) [1, 3, 1, 4, 0, 1, 100, 1] [0, 5, 6, 13] e (A_3 (s3c s4 some)) := fun x y => Eq.trans (b := (A_3 (s3c s4 fun r => some (e r))).G x y) (by kernel_rfl) (by simp only [A_3, s3c, bo, sum_bind, oa, os, on, ofs])
theorem s4_ev : EvA (env s0 s1 s2 s3 s4) [1, 1, 100, 1] [0, 5, 6] e (A_4 (s4c s2 some)) := fun x y => Eq.trans (b := (A_4 (s4c s2 fun r => some (e r))).G x y) (by kernel_rfl) (by simp only [A_4, s4c, bo, sum_bind, oa, os, on, ofs])
end
mutual
def s0 : Nat → S0 R
 | 0, _, _, _, _ => none
 | k + 1, x0, x1, x2, x3 => s0c (s1 k) some x0 x1 x2 x3
def s1 : Nat → S1 R
 | 0, _, _, _ => none
 | k + 1, x0, x1, x2 => s1c (s2 k) some x0 x1 x2
def s2 : Nat → S2 R
 | 0, _, _, _ => none
 | k + 1, x0, x1, x2 => s2c (s3 k) some x0 x1 x2
def s3 : Nat → S3 R
 | 0, _, _, _, _ => none
 | k + 1, x0, x1, x2, x3 => s3c (s4 k) some x0 x1 x2 x3
def s4 : Nat → S4 R
 | 0, _, _, _ => none
 | k + 1, x0, x1, x2 => s4c (s2 k) some x0 x1 x2
end
def f (k : Nat) (a0 : ByteArray) : Option R := c (s0 k) some a0
noncomputable abbrev E (k : Nat) : FEnv := env  (s0 k) (s1 k) (s2 k) (s3 k) (s4 k)
theorem hE (k : Nat) : EnvOK (E k).toEnv := ctsOK L0
theorem sk : ∀ k, ∀ s ∈ [sg0 (s0 k), sg1 (s1 k), sg2 (s2 k), sg3 (s3 k), sg4 (s4 k)], SegB prog f66 0 s
 | 0 => (Lc (sn (Lc (fun _ _ => rfl) L0)) (Lc (sn (Lc (fun _ _ => rfl) L0)) (Lc (sn (Lc (fun _ _ => rfl) L0)) (Lc (sn (Lc (fun _ _ => rfl) L0)) (Lc (sn (Lc (fun _ _ => rfl) L0)) L0)))))
 | k + 1 => (Lc (sg_ok (hE k) (sk k) (Lc s0_ev L0)) (Lc (sg_ok (hE k) (sk k) (Lc s1_ev L0)) (Lc (sg_ok (hE k) (sk k) (Lc s2_ev L0)) (Lc (sg_ok (hE k) (sk k) (Lc s3_ev L0)) (Lc (sg_ok (hE k) (sk k) (Lc s4_ev L0)) L0)))))
theorem ok (k : Nat) : CtOK prog 66 (ct (f k)) := fn_ok func66 rfl (by decide) (hE k) (sk k) (Lc ev L0)
end pack_ReadUint
namespace ops_reader_number
abbrev R : Type := Int × ByteArray × Int
def e (r : R) : Res := ⟨.v (.one (.d (.int .i64) r.1)), [some (.box [(.d .str r.2.1), (.d (.int .i64) r.2.2)])]⟩
abbrev T (δ : Type) : Type := Int → Int → ByteArray → Int → Option δ
abbrev A {δ : Type} (g : T δ) : Arm δ := ⟨[.k (.ptr 0 0), .d (.int .i64), .d (.int .i64)], [.box [.g T_ops_reader]], fun x y => g x.2.1 x.2.2.1 y.1.1.1 y.1.1.2.1⟩
abbrev G : Type := T R
def ct (g : G) : Ct := mkCt 1 [] [A g] e
section
variable {β : Type} (g42 : ops_reader_fail.G) (g66 : pack_ReadUint.G)
noncomputable abbrev env : FEnv := mkEnv prog f39 [(42, ops_reader_fail.ct g42), (66, pack_ReadUint.ct g66)] 1 [] []
def c (ret : R → Option β) (a0 : Int) (a1 : Int) (a2 : ByteArray) (a3 : Int) : Option β := (bif (a3 != (0 : Int)) then (ret ((0 : Int), a2, a3)) else ((g66 a2).bind fun r0 => (bif (decide (r0.1 < (IntKind.wrap .u64 a0))) then ((g42 (1 : Int) r0.2.1 r0.2.2).bind fun r1 => (ret ((0 : Int), r1.1, r1.2))) else (bif (decide (r0.1 > (IntKind.wrap .u64 a1))) then ((g42 (1 : Int) r0.2.1 r0.2.2).bind fun r2 => (ret ((0 : Int), r2.1, r2.2))) else (ret ((IntKind.wrap .i64 r0.1), r0.2.1, r0.2.2))))))
variable {g42} {g66}
theorem ev : EvA (env g42 g66) [] [0, 1, 2] e (A (c g42 g66 some)) := fun x y => Eq.trans (b := (A (c g42 g66 fun r => some (e r))).G x y) (by kernel_rfl) (by simp only [A, c, bo, sum_bind, oa, os, on, ofs])
end
def f (k : Nat) (a0 : Int) (a1 : Int) (a2 : ByteArray) (a3 : Int) : Option R := c (ops_reader_fail.f k) (pack_ReadUint.f k) some a0 a1 a2 a3
noncomputable abbrev E (k : Nat) : FEnv := env (ops_reader_fail.f k) (pack_ReadUint.f k) 
theorem hE (k : Nat) : EnvOK (E k).toEnv := ctsOK (Lc (ops_reader_fail.ok k) (Lc (pack_ReadUint.ok k) L0))
theorem ok (k : Nat) : CtOK prog 39 (ct (f k)) := fn_ok func39 rfl (by decide) (hE k) L0 (Lc ev L0)
end ops_reader_number
namespace pack_ReadText
abbrev R : Type := ByteArray × ByteArray × Int
def e (r : R) : Res := ⟨.tup [(.one (.d .str r.1)), (.one (.d .str r.2.1)), (.one (.d (.int .i64) r.2.2))], []⟩
abbrev T (δ : Type) : Type := ByteArray → Option δ
abbrev A {δ : Type} (g : T δ) : Arm δ := ⟨[.d .str], [], fun x y => g x.1⟩
abbrev G : Type := T R
def ct (g : G) : Ct := mkCt 0 [] [A g] e
section
variable {β : Type} (g66 : pack_ReadUint.G)
noncomputable abbrev env : FEnv := mkEnv prog f67 [(66, pack_ReadUint.ct g66)] 0 [] []
def c (ret : R → Option β) (a0 : ByteArray) : Option β := ((g66 a0).bind fun r0 => (bif (r0.2.2 != (0 : Int)) then (ret ((ByteArray.mk (List.toArray [])), (ByteArray.mk (List.toArray [])), r0.2.2)) else (bif (decide (r0.1 > (IntKind.wrap .u64 (r0.2.1.size : Int)))) then (ret ((ByteArray.mk (List.toArray [])), (ByteArray.mk (List.toArray [])), (3 : Int))) else (bif ((true && (decide ((0 : Int) ≤ r0.1))) && (decide (r0.1 ≤ (r0.2.1.size : Int)))) then (bif (((decide ((0 : Int) ≤ r0.1)) && (decide (r0.1 ≤ (r0.2.1.size : Int)))) && (decide ((r0.2.1.size : Int) ≤ (r0.2.1.size : Int)))) then (ret ((ByteArray.extract r0.2.1 (0 : Nat) (Int.toNat r0.1)), (ByteArray.extract r0.2.1 (Int.toNat r0.1) (Int.toNat (r0.2.1.size : Int))), (0 : Int))) else none) else none))))
variable {g66}
theorem ev : EvA (env g66) [] [0] e (A (c g66 some)) := fun x y => Eq.trans (b := (A (c g66 fun r => some (e r))).G x y) (by kernel_rfl) (by simp only [A, c, bo, sum_bind, oa, os, on, ofs])
end
def f (k : Nat) (a0 : ByteArray) : Option R := c (pack_ReadUint.f k) some a0
noncomputable abbrev E (k : Nat) : FEnv := env (pack_ReadUint.f k) 
theorem hE (k : Nat) : EnvOK (E k).toEnv := ctsOK (Lc (pack_ReadUint.ok k) L0)
theorem ok (k : Nat) : CtOK prog 67 (ct (f k)) := fn_ok func67 rfl (by decide) (hE k) L0 (Lc ev L0)
end pack_ReadText
namespace ops_reader_text
abbrev R : Type := ByteArray × ByteArray × Int
def e (r : R) : Res := ⟨.v (.one (.d .str r.1)), [some (.box [(.d .str r.2.1), (.d (.int .i64) r.2.2)])]⟩
abbrev T (δ : Type) : Type := ByteArray → Int → Option δ
abbrev A {δ : Type} (g : T δ) : Arm δ := ⟨[.k (.ptr 0 0)], [.box [.g T_ops_reader]], fun x y => g y.1.1.1 y.1.1.2.1⟩
abbrev G : Type := T R
def ct (g : G) : Ct := mkCt 1 [] [A g] e
section
variable {β : Type} (g67 : pack_ReadText.G)
noncomputable abbrev env : FEnv := mkEnv prog f40 [(67, pack_ReadText.ct g67)] 1 [] []
def c (ret : R → Option β) (a0 : ByteArray) (a1 : Int) : Option β := (bif (a1 != (0 : Int)) then (ret ((ByteArray.mk (List.toArray [])), a0, a1)) else ((g67 a0).bind fun r0 => (ret (r0.1, r0.2.1, r0.2.2))))
variable {g67}
theorem ev : EvA (env g67) [] [0] e (A (c g67 some)) := fun x y => Eq.trans (b := (A (c g67 fun r => some (e r))).G x y) (by kernel_rfl) (by simp only [A, c, bo, sum_bind, oa, os, on, ofs])
end
def f (k : Nat) (a0 : ByteArray) (a1 : Int) : Option R := c (pack_ReadText.f k) some a0 a1
noncomputable abbrev E (k : Nat) : FEnv := env (pack_ReadText.f k) 
theorem hE (k : Nat) : EnvOK (E k).toEnv := ctsOK (Lc (pack_ReadText.ok k) L0)
theorem ok (k : Nat) : CtOK prog 40 (ct (f k)) := fn_ok func40 rfl (by decide) (hE k) L0 (Lc ev L0)
end ops_reader_text
namespace schema_reader_text
abbrev R : Type := ByteArray × ByteArray × Int
def e (r : R) : Res := ⟨.v (.one (.d .str r.1)), [some (.box [(.d .str r.2.1), (.d (.int .i64) r.2.2)])]⟩
abbrev T (δ : Type) : Type := ByteArray → Int → Option δ
abbrev A {δ : Type} (g : T δ) : Arm δ := ⟨[.k (.ptr 0 0)], [.box [.g T_ops_reader]], fun x y => g y.1.1.1 y.1.1.2.1⟩
abbrev G : Type := T R
def ct (g : G) : Ct := mkCt 1 [] [A g] e
section
variable {β : Type} (g67 : pack_ReadText.G)
noncomputable abbrev env : FEnv := mkEnv prog f94 [(67, pack_ReadText.ct g67)] 1 [] []
def c (ret : R → Option β) (a0 : ByteArray) (a1 : Int) : Option β := (bif (a1 != (0 : Int)) then (ret ((ByteArray.mk (List.toArray [])), a0, a1)) else ((g67 a0).bind fun r0 => (ret (r0.1, r0.2.1, r0.2.2))))
variable {g67}
theorem ev : EvA (env g67) [] [0] e (A (c g67 some)) := fun x y => Eq.trans (b := (A (c g67 fun r => some (e r))).G x y) (by kernel_rfl) (by simp only [A, c, bo, sum_bind, oa, os, on, ofs])
end
def f (k : Nat) (a0 : ByteArray) (a1 : Int) : Option R := c (pack_ReadText.f k) some a0 a1
noncomputable abbrev E (k : Nat) : FEnv := env (pack_ReadText.f k) 
theorem hE (k : Nat) : EnvOK (E k).toEnv := ctsOK (Lc (pack_ReadText.ok k) L0)
theorem ok (k : Nat) : CtOK prog 94 (ct (f k)) := fn_ok func94 rfl (by decide) (hE k) L0 (Lc ev L0)
end schema_reader_text
namespace schema_reader_fail
abbrev R : Type := ByteArray × Int
def e (r : R) : Res := ⟨.tup [], [some (.box [(.d .str r.1), (.d (.int .i64) r.2)])]⟩
abbrev T (δ : Type) : Type := Int → ByteArray → Int → Option δ
abbrev A {δ : Type} (g : T δ) : Arm δ := ⟨[.k (.ptr 0 0), .d (.int .i64)], [.box [.g T_ops_reader]], fun x y => g x.2.1 y.1.1.1 y.1.1.2.1⟩
abbrev G : Type := T R
def ct (g : G) : Ct := mkCt 1 [] [A g] e
section
variable {β : Type} 
noncomputable abbrev env : FEnv := mkEnv prog f98 [] 1 [] []
def c (ret : R → Option β) (a0 : Int) (a1 : ByteArray) (a2 : Int) : Option β := (bif (a2 == (0 : Int)) then (ret (a1, a0)) else (ret (a1, a2)))
theorem ev : EvA (env) [] [0, 1] e (A (c some)) := fun x y => Eq.trans (b := (A (c fun r => some (e r))).G x y) (by kernel_rfl) (by simp only [A, c, bo, sum_bind, oa, os, on, ofs])
end
def f (k : Nat) (a0 : Int) (a1 : ByteArray) (a2 : Int) : Option R := c  some a0 a1 a2
noncomputable abbrev E (k : Nat) : FEnv := env  
theorem hE (k : Nat) : EnvOK (E k).toEnv := ctsOK L0
theorem ok (k : Nat) : CtOK prog 98 (ct (f k)) := fn_ok func98 rfl (by decide) (hE k) L0 (Lc ev L0)
end schema_reader_fail
namespace schema_reader_uint
abbrev R : Type := Int × ByteArray × Int
def e (r : R) : Res := ⟨.v (.one (.d (.int .i64) r.1)), [some (.box [(.d .str r.2.1), (.d (.int .i64) r.2.2)])]⟩
abbrev T (δ : Type) : Type := Int → Int → ByteArray → Int → Option δ
abbrev A {δ : Type} (g : T δ) : Arm δ := ⟨[.k (.ptr 0 0), .d (.int .u64), .d (.int .i64)], [.box [.g T_ops_reader]], fun x y => g x.2.1 x.2.2.1 y.1.1.1 y.1.1.2.1⟩
abbrev G : Type := T R
def ct (g : G) : Ct := mkCt 1 [] [A g] e
section
variable {β : Type} (g66 : pack_ReadUint.G) (g98 : schema_reader_fail.G)
noncomputable abbrev env : FEnv := mkEnv prog f95 [(66, pack_ReadUint.ct g66), (98, schema_reader_fail.ct g98)] 1 [] []
def c (ret : R → Option β) (a0 : Int) (a1 : Int) (a2 : ByteArray) (a3 : Int) : Option β := (bif (a3 != (0 : Int)) then (ret ((0 : Int), a2, a3)) else ((g66 a2).bind fun r0 => (bif (decide (r0.1 > a0)) then ((g98 a1 r0.2.1 r0.2.2).bind fun r1 => (ret ((0 : Int), r1.1, r1.2))) else (ret ((IntKind.wrap .i64 r0.1), r0.2.1, r0.2.2)))))
variable {g66} {g98}
theorem ev : EvA (env g66 g98) [] [0, 1, 2] e (A (c g66 g98 some)) := fun x y => Eq.trans (b := (A (c g66 g98 fun r => some (e r))).G x y) (by kernel_rfl) (by simp only [A, c, bo, sum_bind, oa, os, on, ofs])
end
def f (k : Nat) (a0 : Int) (a1 : Int) (a2 : ByteArray) (a3 : Int) : Option R := c (pack_ReadUint.f k) (schema_reader_fail.f k) some a0 a1 a2 a3
noncomputable abbrev E (k : Nat) : FEnv := env (pack_ReadUint.f k) (schema_reader_fail.f k) 
theorem hE (k : Nat) : EnvOK (E k).toEnv := ctsOK (Lc (pack_ReadUint.ok k) (Lc (schema_reader_fail.ok k) L0))
theorem ok (k : Nat) : CtOK prog 95 (ct (f k)) := fn_ok func95 rfl (by decide) (hE k) L0 (Lc ev L0)
end schema_reader_uint
namespace schema_reader_flag
abbrev R : Type := Bool × ByteArray × Int
def e (r : R) : Res := ⟨.v (.one (.d .bool r.1)), [some (.box [(.d .str r.2.1), (.d (.int .i64) r.2.2)])]⟩
abbrev T (δ : Type) : Type := ByteArray → Int → Option δ
abbrev A {δ : Type} (g : T δ) : Arm δ := ⟨[.k (.ptr 0 0)], [.box [.g T_ops_reader]], fun x y => g y.1.1.1 y.1.1.2.1⟩
abbrev G : Type := T R
def ct (g : G) : Ct := mkCt 1 [] [A g] e
section
variable {β : Type} (g98 : schema_reader_fail.G)
noncomputable abbrev env : FEnv := mkEnv prog f96 [(98, schema_reader_fail.ct g98)] 1 [] []
def c (ret : R → Option β) (a0 : ByteArray) (a1 : Int) : Option β := (bif (a1 != (0 : Int)) then (ret (false, a0, a1)) else (bif (a0.toList == (ByteArray.toList (ByteArray.mk (List.toArray [])))) then ((g98 (3 : Int) a0 a1).bind fun r0 => (ret (false, r0.1, r0.2))) else (bif (true && (decide ((0 : Int) < (a0.size : Int)))) then (bif (decide ((bt a0 (0 : Int)) > (1 : Int))) then ((g98 (4 : Int) a0 a1).bind fun r1 => (ret (false, r1.1, r1.2))) else (bif (true && (decide ((0 : Int) < (a0.size : Int)))) then (bif ((true && (decide ((1 : Int) ≤ (a0.size : Int)))) && (decide ((a0.size : Int) ≤ (a0.size : Int)))) then (ret (((bt a0 (0 : Int)) == (1 : Int)), (ByteArray.extract a0 (1 : Nat) (Int.toNat (a0.size : Int))), a1)) else none) else none)) else none)))
variable {g98}
theorem ev : EvA (env g98) [] [0] e (A (c g98 some)) := fun x y => Eq.trans (b := (A (c g98 fun r => some (e r))).G x y) (by kernel_rfl) (by simp only [A, c, bo, sum_bind, oa, os, on, ofs])
end
def f (k : Nat) (a0 : ByteArray) (a1 : Int) : Option R := c (schema_reader_fail.f k) some a0 a1
noncomputable abbrev E (k : Nat) : FEnv := env (schema_reader_fail.f k) 
theorem hE (k : Nat) : EnvOK (E k).toEnv := ctsOK (Lc (schema_reader_fail.ok k) L0)
theorem ok (k : Nat) : CtOK prog 96 (ct (f k)) := fn_ok func96 rfl (by decide) (hE k) L0 (Lc ev L0)
end schema_reader_flag
namespace keycode_need
def e (r : Int) : Res := ⟨.v (.one (.d (.int .i64) r)), []⟩
abbrev T (δ : Type) : Type := Int → Option δ
abbrev A {δ : Type} (g : T δ) : Arm δ := ⟨[.d (.int .i64)], [], fun x y => g x.1⟩
abbrev G : Type := T Int
def ct (g : G) : Ct := mkCt 0 [] [A g] e
section
variable {β : Type} 
noncomputable abbrev env : FEnv := mkEnv prog f141 [] 0 [] []
def c (ret : Int → Option β) (a0 : Int) : Option β := (bif (a0 == (1 : Int)) then (ret ((1 : Int))) else (bif (a0 == (2 : Int)) then (bif (a0 == (2 : Int)) then (ret ((8 : Int))) else (ret ((0 : Int)))) else (bif (a0 == (3 : Int)) then (ret ((8 : Int))) else (ret ((0 : Int))))))
theorem ev : EvA (env) [] [0] e (A (c some)) := fun x y => Eq.trans (b := (A (c fun r => some (e r))).G x y) (by kernel_rfl) (by simp only [A, c, bo, sum_bind, oa, os, on, ofs])
end
def f (k : Nat) (a0 : Int) : Option Int := c  some a0
noncomputable abbrev E (k : Nat) : FEnv := env  
theorem hE (k : Nat) : EnvOK (E k).toEnv := ctsOK L0
theorem ok (k : Nat) : CtOK prog 141 (ct (f k)) := fn_ok func141 rfl (by decide) (hE k) L0 (Lc ev L0)
end keycode_need
namespace keycode_get8
def e (r : Int) : Res := ⟨.v (.one (.d (.int .u64) r)), []⟩
abbrev T (δ : Type) : Type := ByteArray → Option δ
abbrev A {δ : Type} (g : T δ) : Arm δ := ⟨[.d .str], [], fun x y => g x.1⟩
abbrev G : Type := T Int
def ct (g : G) : Ct := mkCt 0 [] [A g] e
abbrev S0 (δ : Type) : Type := ByteArray → Int → Int → Option δ
abbrev A_0 {δ : Type} (s : S0 δ) : Arm δ := ⟨[.d .str, .d (.int .u64), .d (.int .i64)], [], fun x y => s x.1 x.2.1 x.2.2.1⟩
def sg0 (s : S0 Int) : Seg := mkSg [4, 1, 0, 1, 1] [] [0, 3, 5] [A_0 s] e
section
variable {β : Type} (s0 : S0 Int)
noncomputable abbrev env : FEnv := mkEnv prog f142 [] 0 [] [sg0 s0]
def c (ret : Int → Option β) (a0 : ByteArray) : Option β := ((s0 a0 (0 : Int) (0 : Int)).bind ret)
def s0c (ret : Int → Option β) (x0 : ByteArray) (x1 : Int) (x2 : Int) : Option β := (bif (decide (x2 < (8 : Int))) then (bif ((decide ((0 : Int) ≤ x2)) && (decide (x2 < (x0.size : Int)))) then ((s0 x0 (IntKind.wrap .u64 ((BitVec.toNat ((BitVec.ofInt (64 : Nat) (IntKind.wrap .u64 (x1 * (256 : Int)))) ||| (BitVec.ofInt (64 : Nat) (IntKind.wrap .u64 (bt x0 x2))))) : Int)) (IntKind.wrap .i64 (x2 + (1 : Int)))).bind ret) else none) else (ret (x1)))
variable {s0}
theorem ev : EvA (env s0) [] [0] e (A (c s0 some)) := fun x y => Eq.trans (b := (A (c s0 fun r => some (e r))).G x y) (by kernel_rfl) (by simp only [A, c, bo, sum_bind, oa, os, on, ofs])
theorem s0_ev : EvA (env s0) [4, 1, 0, 1, 1] [0, 3, 5] e (A_0 (s0c s0 some)) := fun x y => Eq.trans (b := (A_0 (s0c s0 fun r => some (e r))).G x y) (by kernel_rfl) (by simp only [A_0, s0c, bo, sum_bind, oa, os, on, ofs])
end
def s0 : Nat → S0 Int
 | 0, _, _, _ => none
 | k + 1, x0, x1, x2 => s0c (s0 k) some x0 x1 x2
def f (k : Nat) (a0 : ByteArray) : Option Int := c (s0 k) some a0
noncomputable abbrev E (k : Nat) : FEnv := env  (s0 k)
theorem hE (k : Nat) : EnvOK (E k).toEnv := ctsOK L0
theorem sk : ∀ k, ∀ s ∈ [sg0 (s0 k)], SegB prog f142 0 s
 | 0 => (Lc (sn (Lc (fun _ _ => rfl) L0)) L0)
 | k + 1 => (Lc (sg_ok (hE k) (sk k) (Lc s0_ev L0)) L0)
theorem ok (k : Nat) : CtOK prog 142 (ct (f k)) := fn_ok func142 rfl (by decide) (hE k) (sk k) (Lc ev L0)
end keycode_get8
namespace reals_bytes
abbrev R : Type := Int × Int × Int × Int × Int × Int × Int × Int
def e (r : R) : Res := ⟨.v (.agg [(.d (.int .u8) r.1), (.d (.int .u8) r.2.1), (.d (.int .u8) r.2.2.1), (.d (.int .u8) r.2.2.2.1), (.d (.int .u8) r.2.2.2.2.1), (.d (.int .u8) r.2.2.2.2.2.1), (.d (.int .u8) r.2.2.2.2.2.2.1), (.d (.int .u8) r.2.2.2.2.2.2.2)]), []⟩
abbrev T (δ : Type) : Type := Int → Option δ
abbrev A {δ : Type} (g : T δ) : Arm δ := ⟨[.d (.int .u64)], [], fun x y => g x.1⟩
abbrev G : Type := T R
def ct (g : G) : Ct := mkCt 0 [] [A g] e
section
variable {β : Type} 
noncomputable abbrev env : FEnv := mkEnv prog f152 [] 0 [] []
def c (ret : R → Option β) (a0 : Int) : Option β := (ret ((IntKind.wrap .u8 (Int.fdiv a0 (72057594037927936 : Int))), (IntKind.wrap .u8 (Int.fdiv a0 (281474976710656 : Int))), (IntKind.wrap .u8 (Int.fdiv a0 (1099511627776 : Int))), (IntKind.wrap .u8 (Int.fdiv a0 (4294967296 : Int))), (IntKind.wrap .u8 (Int.fdiv a0 (16777216 : Int))), (IntKind.wrap .u8 (Int.fdiv a0 (65536 : Int))), (IntKind.wrap .u8 (Int.fdiv a0 (256 : Int))), (IntKind.wrap .u8 (Int.fdiv a0 (1 : Int)))))
theorem ev : EvA (env) [] [0] e (A (c some)) := fun x y => Eq.trans (b := (A (c fun r => some (e r))).G x y) (by kernel_rfl) (by simp only [A, c, bo, sum_bind, oa, os, on, ofs])
end
def f (k : Nat) (a0 : Int) : Option R := c  some a0
noncomputable abbrev E (k : Nat) : FEnv := env  
theorem hE (k : Nat) : EnvOK (E k).toEnv := ctsOK L0
theorem ok (k : Nat) : CtOK prog 152 (ct (f k)) := fn_ok func152 rfl (by decide) (hE k) L0 (Lc ev L0)
end reals_bytes
namespace reals_Back
abbrev R : Type := Int × Bool
def e (r : R) : Res := ⟨.tup [(.one (.d (.int .u64) r.1)), (.one (.d .bool r.2))], []⟩
abbrev T (δ : Type) : Type := Int → Option δ
abbrev A {δ : Type} (g : T δ) : Arm δ := ⟨[.d (.int .u64)], [], fun x y => g x.1⟩
abbrev G : Type := T R
def ct (g : G) : Ct := mkCt 0 [] [A g] e
section
variable {β : Type} (g101 : reals_Canon.G) (g152 : reals_bytes.G)
noncomputable abbrev env : FEnv := mkEnv prog f143 [(101, reals_Canon.ct g101), (152, reals_bytes.ct g152)] 0 [] []
def c (ret : R → Option β) (a0 : Int) : Option β := (bif ((IntKind.wrap .u64 ((BitVec.toNat ((BitVec.ofInt (64 : Nat) a0) &&& (BitVec.ofInt (64 : Nat) (9223372036854775808 : Int)))) : Int)) == (0 : Int)) then ((g101 (IntKind.wrap .u64 ((BitVec.toNat ((BitVec.ofInt (64 : Nat) (18446744073709551615 : Int)) ^^^ (BitVec.ofInt (64 : Nat) a0))) : Int))).bind fun r0 => ((g152 r0).bind fun r1 => ((g152 (IntKind.wrap .u64 ((BitVec.toNat ((BitVec.ofInt (64 : Nat) (18446744073709551615 : Int)) ^^^ (BitVec.ofInt (64 : Nat) a0))) : Int))).bind fun r2 => (bif (!((r1.1 == r2.1) && ((r1.2.1 == r2.2.1) && ((r1.2.2.1 == r2.2.2.1) && ((r1.2.2.2.1 == r2.2.2.2.1) && ((r1.2.2.2.2.1 == r2.2.2.2.2.1) && ((r1.2.2.2.2.2.1 == r2.2.2.2.2.2.1) && ((r1.2.2.2.2.2.2.1 == r2.2.2.2.2.2.2.1) && ((r1.2.2.2.2.2.2.2 == r2.2.2.2.2.2.2.2) && true))))))))) then (ret ((0 : Int), false)) else (ret ((IntKind.wrap .u64 ((BitVec.toNat ((BitVec.ofInt (64 : Nat) (18446744073709551615 : Int)) ^^^ (BitVec.ofInt (64 : Nat) a0))) : Int)), true)))))) else ((g101 (IntKind.wrap .u64 ((BitVec.toNat ((BitVec.ofInt (64 : Nat) a0) &&& (Complement.complement (BitVec.ofInt (64 : Nat) (9223372036854775808 : Int))))) : Int))).bind fun r3 => ((g152 r3).bind fun r4 => ((g152 (IntKind.wrap .u64 ((BitVec.toNat ((BitVec.ofInt (64 : Nat) a0) &&& (Complement.complement (BitVec.ofInt (64 : Nat) (9223372036854775808 : Int))))) : Int))).bind fun r5 => (bif (!((r4.1 == r5.1) && ((r4.2.1 == r5.2.1) && ((r4.2.2.1 == r5.2.2.1) && ((r4.2.2.2.1 == r5.2.2.2.1) && ((r4.2.2.2.2.1 == r5.2.2.2.2.1) && ((r4.2.2.2.2.2.1 == r5.2.2.2.2.2.1) && ((r4.2.2.2.2.2.2.1 == r5.2.2.2.2.2.2.1) && ((r4.2.2.2.2.2.2.2 == r5.2.2.2.2.2.2.2) && true))))))))) then (ret ((0 : Int), false)) else (ret ((IntKind.wrap .u64 ((BitVec.toNat ((BitVec.ofInt (64 : Nat) a0) &&& (Complement.complement (BitVec.ofInt (64 : Nat) (9223372036854775808 : Int))))) : Int)), true)))))))
variable {g101} {g152}
theorem ev : EvA (env g101 g152) [] [0] e (A (c g101 g152 some)) := fun x y => Eq.trans (b := (A (c g101 g152 fun r => some (e r))).G x y) (by kernel_rfl) (by simp only [A, c, bo, sum_bind, oa, os, on, ofs])
end
def f (k : Nat) (a0 : Int) : Option R := c (reals_Canon.f k) (reals_bytes.f k) some a0
noncomputable abbrev E (k : Nat) : FEnv := env (reals_Canon.f k) (reals_bytes.f k) 
theorem hE (k : Nat) : EnvOK (E k).toEnv := ctsOK (Lc (reals_Canon.ok k) (Lc (reals_bytes.ok k) L0))
theorem ok (k : Nat) : CtOK prog 143 (ct (f k)) := fn_ok func143 rfl (by decide) (hE k) L0 (Lc ev L0)
end reals_Back
namespace keycode_plain
abbrev R : Type := ByteArray × ByteArray × Int
def e (r : R) : Res := ⟨.tup [(.one (.d .str r.1)), (.one (.d .str r.2.1)), (.one (.d (.int .i64) r.2.2))], []⟩
abbrev T (δ : Type) : Type := ByteArray → Option δ
abbrev A {δ : Type} (g : T δ) : Arm δ := ⟨[.d .str], [], fun x y => g x.1⟩
abbrev G : Type := T R
def ct (g : G) : Ct := mkCt 0 [] [A g] e
abbrev S0 (δ : Type) : Type := ByteArray → Int → (List Int) → Option δ
abbrev A_0 {δ : Type} (s : S0 δ) : Arm δ := ⟨[.d .str, .k (.own 0), .d (.int .i64)], [.own (.int .u8) false], fun x y => s x.1 x.2.2.1 y.1⟩
abbrev S1 (δ : Type) : Type := ByteArray → Int → (List Int) → Option δ
abbrev A_1 {δ : Type} (s : S1 δ) : Arm δ := ⟨[.d .str, .k (.own 0), .d (.int .i64)], [.own (.int .u8) false], fun x y => s x.1 x.2.2.1 y.1⟩
def sg0 (s : S0 R) : Seg := mkSg [4, 1, 0, 1, 1] [.own 5 (.int .u8)] [0, 5, 6] [A_0 s] e
def sg1 (s : S1 R) : Seg := mkSg [1, 1, 5, 4, 1, 0, 1, 1] [] [0, 5, 6] [A_1 s] e
section
variable {β : Type} (s0 : S0 R) (s1 : S1 R)
noncomputable abbrev env : FEnv := mkEnv prog f144 [] 0 [] [sg0 s0, sg1 s1]
def c (ret : R → Option β) (a0 : ByteArray) : Option β := ((s0 a0 (0 : Int) []).bind ret)
def s0c (ret : R → Option β) (x0 : ByteArray) (x1 : Int) (x2 : List Int) : Option β := (bif (decide (x1 < (x0.size : Int))) then (bif ((decide ((0 : Int) ≤ x1)) && (decide (x1 < (x0.size : Int)))) then (bif ((bt x0 x1) != (0 : Int)) then (bif ((decide ((0 : Int) ≤ x1)) && (decide (x1 < (x0.size : Int)))) then (bif (decide (((x2.length + (1 : Nat)) * (1 : Nat)) ≤ (35184372088832 : Nat))) then ((s1 x0 x1 (x2 ++ [(bt x0 x1)])).bind ret) else none) else none) else (bif ((IntKind.wrap .i64 (x1 + (1 : Int))) == (x0.size : Int)) then (ret ((ByteArray.mk (List.toArray [])), (ByteArray.mk (List.toArray [])), (3 : Int))) else (bif ((decide ((0 : Int) ≤ (IntKind.wrap .i64 (x1 + (1 : Int))))) && (decide ((IntKind.wrap .i64 (x1 + (1 : Int))) < (x0.size : Int)))) then (bif ((bt x0 (IntKind.wrap .i64 (x1 + (1 : Int)))) == (0 : Int)) then (bif (((decide ((0 : Int) ≤ (IntKind.wrap .i64 (x1 + (2 : Int))))) && (decide ((IntKind.wrap .i64 (x1 + (2 : Int))) ≤ (x0.size : Int)))) && (decide ((x0.size : Int) ≤ (x0.size : Int)))) then (ret ((ByteArray.mk (List.toArray (List.map (fun n => (UInt8.ofNat (Int.toNat n))) x2))), (ByteArray.extract x0 (Int.toNat (IntKind.wrap .i64 (x1 + (2 : Int)))) (Int.toNat (x0.size : Int))), (0 : Int))) else none) else (bif ((decide ((0 : Int) ≤ (IntKind.wrap .i64 (x1 + (1 : Int))))) && (decide ((IntKind.wrap .i64 (x1 + (1 : Int))) < (x0.size : Int)))) then (bif ((bt x0 (IntKind.wrap .i64 (x1 + (1 : Int)))) != (255 : Int)) then (ret ((ByteArray.mk (List.toArray [])), (ByteArray.mk (List.toArray [])), (4 : Int))) else (bif (decide (((x2.length + (1 : Nat)) * (1 : Nat)) ≤ (35184372088832 : Nat))) then ((s1 x0 (IntKind.wrap .i64 (x1 + (1 : Int))) (x2 ++ [(0 : Int)])).bind ret) else none)) else none)) else none))) else none) else (ret ((ByteArray.mk (List.toArray [])), (ByteArray.mk (List.toArray [])), (3 : Int))))
def s1c (ret : R → Option β) (x0 : ByteArray) (x1 : Int) (x2 : List Int) : Option β := ((s0 x0 (IntKind.wrap .i64 (x1 + (1 : Int))) x2).bind ret)
variable {s0} {s1}
theorem ev : EvA (env s0 s1) [] [0] e (A (c s0 some)) := fun x y => Eq.trans (b := (A (c s0 fun r => some (e r))).G x y) (by kernel_rfl) (by simp only [A, c, bo, sum_bind, oa, os, on, ofs])
theorem s0_ev : EvA (env s0 s1) [4, 1, 0, 1, 1] [0, 5, 6] e (A_0 (s0c s1 some)) := fun x y => Eq.trans (b := (A_0 (s0c s1 fun r => some (e r))).G x y) (by kernel_rfl) (by simp only [A_0, s0c, bo, sum_bind, oa, os, on, ofs])
theorem s1_ev : EvA (env s0 s1) [1, 1, 5, 4, 1, 0, 1, 1] [0, 5, 6] e (A_1 (s1c s0 some)) := fun x y => Eq.trans (b := (A_1 (s1c s0 fun r => some (e r))).G x y) (by kernel_rfl) (by simp only [A_1, s1c, bo, sum_bind, oa, os, on, ofs])
end
mutual
def s0 : Nat → S0 R
 | 0, _, _, _ => none
 | k + 1, x0, x1, x2 => s0c (s1 k) some x0 x1 x2
def s1 : Nat → S1 R
 | 0, _, _, _ => none
 | k + 1, x0, x1, x2 => s1c (s0 k) some x0 x1 x2
end
def f (k : Nat) (a0 : ByteArray) : Option R := c (s0 k) some a0
noncomputable abbrev E (k : Nat) : FEnv := env  (s0 k) (s1 k)
theorem hE (k : Nat) : EnvOK (E k).toEnv := ctsOK L0
theorem sk : ∀ k, ∀ s ∈ [sg0 (s0 k), sg1 (s1 k)], SegB prog f144 0 s
 | 0 => (Lc (sn (Lc (fun _ _ => rfl) L0)) (Lc (sn (Lc (fun _ _ => rfl) L0)) L0))
 | k + 1 => (Lc (sg_ok (hE k) (sk k) (Lc s0_ev L0)) (Lc (sg_ok (hE k) (sk k) (Lc s1_ev L0)) L0))
theorem ok (k : Nat) : CtOK prog 144 (ct (f k)) := fn_ok func144 rfl (by decide) (hE k) (sk k) (Lc ev L0)
end keycode_plain
end Go.Proofs.YtaehpfmnejeddaaGreatDoor.Aev
