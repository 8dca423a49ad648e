import Derived.Test.YtimadphjdkjgaaaGreatDoorTys
import Derived.Test.YtimadphjdkjgaaaGreatDoorProg
import Derived.Laws.Externs
import Derived.Lib.Bytealg
import Derived.Test.YtimadphjdkjgaaaGreatDoorF7
import Derived.Test.YtimadphjdkjgaaaGreatDoorF8
/- By a program of this session (AEV): functions of the program as plain functions, and that the machine does what they say. -/
namespace Go.Proofs.YtimadphjdkjgaaaGreatDoor.Aev
set_option linter.unusedVariables false
set_option linter.unusedSimpArgs false
set_option maxRecDepth 100000
set_option maxHeartbeats 4000000
open Go Go.Proofs.Tryz
namespace r36_Quote
def e (r : ByteArray) : Res := ⟨.v (.one (.d .str r)), []⟩
abbrev T (δ : Type) : Type := ByteArray → Option δ
abbrev A {δ : Type} (g : T δ) : Arm δ := ⟨[.d .str], [], fun x y => g x.1⟩
abbrev G : Type := T ByteArray
def ct (g : G) : Ct := mkCt 0 [] [A g] e
abbrev S0 (δ : Type) : Type := ByteArray → ByteArray → Int → Option δ
abbrev A_0 {δ : Type} (s : S0 δ) : Arm δ := ⟨[.d .str, .d .str, .d (.int .i64)], [], fun x y => s x.1 x.2.1 x.2.2.1⟩
abbrev S1 (δ : Type) : Type := ByteArray → ByteArray → Int → Int → Bool → Option δ
abbrev A_1 {δ : Type} (s : S1 δ) : Arm δ := ⟨[.d .str, .d .str, .d (.int .i64), .d (.int .u8), .d .bool], [], fun x y => s x.1 x.2.1 x.2.2.1 x.2.2.2.1 x.2.2.2.2.1⟩
abbrev S2 (δ : Type) : Type := ByteArray → ByteArray → Int → Int → Bool → Option δ
abbrev A_2 {δ : Type} (s : S2 δ) : Arm δ := ⟨[.d .str, .d .str, .d (.int .i64), .d (.int .u8), .d .bool], [], fun x y => s x.1 x.2.1 x.2.2.1 x.2.2.2.1 x.2.2.2.2.1⟩
abbrev S3 (δ : Type) : Type := ByteArray → ByteArray → Int → Option δ
abbrev A_3 {δ : Type} (s : S3 δ) : Arm δ := ⟨[.d .str, .d .str, .d (.int .i64)], [], fun x y => s x.1 x.2.1 x.2.2.1⟩
def sg0 (s : S0 ByteArray) : Seg := mkSg [4, 1, 0, 1, 1] [] [0, 3, 4] [A_0 s] e
def sg1 (s : S1 ByteArray) : Seg := mkSg [1, 4, 1, 4, 0, 1, 5, 4, 1, 0, 1, 1] [] [0, 3, 4, 5, 22] [A_1 s] e
def sg2 (s : S2 ByteArray) : Seg := mkSg [1, 3, 1, 4, 1, 4, 0, 1, 5, 4, 1, 0, 1, 1] [] [0, 3, 4, 5, 37] [A_2 s] e
def sg3 (s : S3 ByteArray) : Seg := mkSg [1, 1, 5, 4, 1, 0, 1, 1] [] [0, 3, 4] [A_3 s] e
section
variable {β : Type} (g91 : r36_digit.G) (s0 : S0 ByteArray) (s1 : S1 ByteArray) (s2 : S2 ByteArray) (s3 : S3 ByteArray)
noncomputable abbrev env : FEnv := mkEnv prog f92 [(91, r36_digit.ct g91)] 0 [] [sg0 s0, sg1 s1, sg2 s2, sg3 s3]
def c (ret : ByteArray → Option β) (a0 : ByteArray) : Option β := ((s0 a0 (ByteArray.mk (List.toArray [34])) (0 : Int)).bind ret)
def s0c (ret : ByteArray → Option β) (x0 x1 : ByteArray) (x2 : Int) : Option β := (bif (decide (x2 < (x0.size : Int))) then (bif ((decide ((0 : Int) ≤ x2)) && (decide (x2 < (x0.size : Int)))) then (bif ((bt x0 x2) == (34 : Int)) then ((s1 x0 x1 x2 (bt x0 x2) true).bind ret) else ((s1 x0 x1 x2 (bt x0 x2) ((bt x0 x2) == (92 : Int))).bind ret)) else none) else (bif ((decide (x1.size ≤ (4611686018427387903 : Nat))) && true) then (ret ((x1 ++ (ByteArray.mk (List.toArray [34]))))) else none))
def s1c (ret : ByteArray → Option β) (x0 x1 : ByteArray) (x2 x3 : Int) (x4 : Bool) : Option β := (bif x4 then (bif ((decide (x1.size ≤ (4611686018427387903 : Nat))) && true) then (bif (((decide ((0 : Int) ≤ x2)) && (decide (x2 ≤ (IntKind.wrap .i64 (x2 + (1 : Int)))))) && (decide ((IntKind.wrap .i64 (x2 + (1 : Int))) ≤ (x0.size : Int)))) then (bif ((decide ((ByteArray.size (x1 ++ (ByteArray.mk (List.toArray [92])))) ≤ (4611686018427387903 : Nat))) && (decide ((ByteArray.size (ByteArray.extract x0 (Int.toNat x2) (Int.toNat (IntKind.wrap .i64 (x2 + (1 : Int)))))) ≤ (4611686018427387903 : Nat)))) then ((s3 x0 ((x1 ++ (ByteArray.mk (List.toArray [92]))) ++ (ByteArray.extract x0 (Int.toNat x2) (Int.toNat (IntKind.wrap .i64 (x2 + (1 : Int)))))) x2).bind ret) else none) else none) else none) else (bif (decide (x3 < (32 : Int))) then ((s2 x0 x1 x2 x3 true).bind ret) else ((s2 x0 x1 x2 x3 (decide (x3 > (126 : Int)))).bind ret)))
def s2c (ret : ByteArray → Option β) (x0 x1 : ByteArray) (x2 x3 : Int) (x4 : Bool) : Option β := (bif x4 then (bif ((decide (x1.size ≤ (4611686018427387903 : Nat))) && true) then ((g91 (IntKind.wrap .i64 (IntKind.wrap .u8 (Int.tdiv x3 (16 : Int))))).bind fun r0 => (bif ((decide ((ByteArray.size (x1 ++ (ByteArray.mk (List.toArray [92, 120])))) ≤ (4611686018427387903 : Nat))) && (decide (r0.size ≤ (4611686018427387903 : Nat)))) then ((g91 (IntKind.wrap .i64 (Int.tmod x3 (16 : Int)))).bind fun r1 => (bif ((decide ((ByteArray.size ((x1 ++ (ByteArray.mk (List.toArray [92, 120]))) ++ r0)) ≤ (4611686018427387903 : Nat))) && (decide (r1.size ≤ (4611686018427387903 : Nat)))) then ((s3 x0 (((x1 ++ (ByteArray.mk (List.toArray [92, 120]))) ++ r0) ++ r1) x2).bind ret) else none)) else none)) else none) else (bif (((decide ((0 : Int) ≤ x2)) && (decide (x2 ≤ (IntKind.wrap .i64 (x2 + (1 : Int)))))) && (decide ((IntKind.wrap .i64 (x2 + (1 : Int))) ≤ (x0.size : Int)))) then (bif ((decide (x1.size ≤ (4611686018427387903 : Nat))) && (decide ((ByteArray.size (ByteArray.extract x0 (Int.toNat x2) (Int.toNat (IntKind.wrap .i64 (x2 + (1 : Int)))))) ≤ (4611686018427387903 : Nat)))) then ((s3 x0 (x1 ++ (ByteArray.extract x0 (Int.toNat x2) (Int.toNat (IntKind.wrap .i64 (x2 + (1 : Int)))))) x2).bind ret) else none) else none))
def s3c (ret : ByteArray → Option β) (x0 x1 : ByteArray) (x2 : Int) : Option β := ((s0 x0 x1 (IntKind.wrap .i64 (x2 + (1 : Int)))).bind ret)
variable {g91} {s0} {s1} {s2} {s3}
theorem ev : EvA (env g91 s0 s1 s2 s3) [] [0] e (A (c s0 some)) := fun x y => Eq.trans (b := (A (c s0 fun r => some (e r))).G x y) (by kernel_rfl) (by simp only [A, c, bo, so, oa, os, on, ofs])
theorem s0_ev : EvA (env g91 s0 s1 s2 s3) [4, 1, 0, 1, 1] [0, 3, 4] e (A_0 (s0c s1 some)) := fun x y => Eq.trans (b := (A_0 (s0c s1 fun r => some (e r))).G x y) (by kernel_rfl) (by simp only [A_0, s0c, bo, so, oa, os, on, ofs])
theorem s1_ev : EvA (env g91 s0 s1 s2 s3) [1, 4, 1, 4, 0, 1, 5, 4, 1, 0, 1, 1] [0, 3, 4, 5, 22] e (A_1 (s1c s2 s3 some)) := fun x y => Eq.trans (b := (A_1 (s1c s2 s3 fun r => some (e r))).G x y) (by kernel_rfl) (by simp only [A_1, s1c, bo, so, oa, os, on, ofs])
theorem s2_ev : EvA (env g91 s0 s1 s2 s3) [1, 3, 1, 4, 1, 4, 0, 1, 5, 4, 1, 0, 1, 1] [0, 3, 4, 5, 37] e (A_2 (s2c g91 s3 some)) := fun x y => Eq.trans (b := (A_2 (s2c g91 s3 fun r => some (e r))).G x y) (by kernel_rfl) (by simp only [A_2, s2c, bo, so, oa, os, on, ofs])
theorem s3_ev : EvA (env g91 s0 s1 s2 s3) [1, 1, 5, 4, 1, 0, 1, 1] [0, 3, 4] e (A_3 (s3c s0 some)) := fun x y => Eq.trans (b := (A_3 (s3c s0 fun r => some (e r))).G x y) (by kernel_rfl) (by simp only [A_3, s3c, bo, so, oa, os, on, ofs])
end
mutual
def s0 : Nat → S0 ByteArray
 | 0, _, _, _ => none
 | k + 1, x0, x1, x2 => s0c (s1 k) some x0 x1 x2
def s1 : Nat → S1 ByteArray
 | 0, _, _, _, _, _ => none
 | k + 1, x0, x1, x2, x3, x4 => s1c (s2 k) (s3 k) some x0 x1 x2 x3 x4
def s2 : Nat → S2 ByteArray
 | 0, _, _, _, _, _ => none
 | k + 1, x0, x1, x2, x3, x4 => s2c (r36_digit.f k) (s3 k) some x0 x1 x2 x3 x4
def s3 : Nat → S3 ByteArray
 | 0, _, _, _ => none
 | k + 1, x0, x1, x2 => s3c (s0 k) some x0 x1 x2
end
def f (k : Nat) (a0 : ByteArray) : Option ByteArray := c (s0 k) some a0
noncomputable abbrev E (k : Nat) : FEnv := env (r36_digit.f k) (s0 k) (s1 k) (s2 k) (s3 k)
theorem hE (k : Nat) : EnvOK (E k).toEnv := ctsOK (Lc (r36_digit.ok k) L0)
theorem sk : ∀ k, ∀ s ∈ [sg0 (s0 k), sg1 (s1 k), sg2 (s2 k), sg3 (s3 k)], SegB prog f92 0 s
 | 0 => (Lc (sn (Lc (fun _ _ => rfl) L0)) (Lc (sn (Lc (fun _ _ => rfl) L0)) (Lc (sn (Lc (fun _ _ => rfl) L0)) (Lc (sn (Lc (fun _ _ => rfl) L0)) L0))))
 | k + 1 => (Lc (sg_ok (hE k) (sk k) (Lc s0_ev L0)) (Lc (sg_ok (hE k) (sk k) (Lc s1_ev L0)) (Lc (sg_ok (hE k) (sk k) (Lc s2_ev L0)) (Lc (sg_ok (hE k) (sk k) (Lc s3_ev L0)) L0))))
theorem ok (k : Nat) : CtOK prog 92 (ct (f k)) := fn_ok func92 rfl (by decide) (hE k) (sk k) (Lc ev L0)
end r36_Quote
namespace r36_Show
abbrev R : Type := ByteArray × Int
def e (r : R) : Res := ⟨.tup [(.one (.d .str r.1)), (.one (.d (.int .i64) r.2))], []⟩
abbrev T (δ : Type) : Type := Int → Int → Int → ByteArray → Option δ
abbrev A {δ : Type} (g : T δ) : Arm δ := ⟨[.s T_api_Value], [], fun x y => g x.1.1.1 x.1.1.2.1 x.1.1.2.2.1 x.1.1.2.2.2.1⟩
abbrev G : Type := T R
def ct (g : G) : Ct := mkCt 0 [] [A g] e
abbrev S0 (δ : Type) : Type := ByteArray → Int → Int → Int → Int → ByteArray → Option δ
abbrev A_0 {δ : Type} (s : S0 δ) : Arm δ := ⟨[.k (.ptr 0 0), .d .str, .d (.int .i64)], [.box [.g T_api_Value]], fun x y => s x.2.1 x.2.2.1 y.1.1.1 y.1.1.2.1 y.1.1.2.2.1 y.1.1.2.2.2.1⟩
def sg0 (s : S0 R) : Seg := mkSg [4, 1, 0, 1, 2, 1, 3, 1, 3, 1, 3, 1, 4, 1, 0, 1, 1] [] [1, 5, 6] [A_0 s] e
section
variable {β : Type} (g60 : r07_Digits.G) (g90 : r04_Check.G) (g91 : r36_digit.G) (g92 : r36_Quote.G) (s0 : S0 R)
noncomputable abbrev env : FEnv := mkEnv prog f67 [(60, r07_Digits.ct g60), (90, r04_Check.ct g90), (91, r36_digit.ct g91), (92, r36_Quote.ct g92)] 0 [] [sg0 s0]
def c (ret : R → Option β) (a0 a1 a2 : Int) (a3 : ByteArray) : Option β := ((g90 a0 a1 a2 a3).bind fun r0 => (bif (r0 != (0 : Int)) then (ret ((ByteArray.mk (List.toArray [])), r0)) else (bif (a0 == (0 : Int)) then (ret ((ByteArray.mk (List.toArray [110, 117, 108, 108])), (0 : Int))) else (bif (a0 == (1 : Int)) then (bif (a1 == (1 : Int)) then (ret ((ByteArray.mk (List.toArray [116, 114, 117, 101])), (0 : Int))) else (ret ((ByteArray.mk (List.toArray [102, 97, 108, 115, 101])), (0 : Int)))) else (bif (a0 == (2 : Int)) then ((g60 a1).bind fun r1 => (ret (r1, (0 : Int)))) else (bif (a0 == (3 : Int)) then ((s0 (ByteArray.mk (List.toArray [114])) (0 : Int) a0 a1 a2 a3).bind ret) else (bif (a0 == (4 : Int)) then ((g92 a3).bind fun r2 => (bif (true && (decide (r2.size ≤ (4611686018427387903 : Nat)))) then (ret (((ByteArray.mk (List.toArray [98])) ++ r2), (0 : Int))) else none)) else ((g92 a3).bind fun r3 => (ret (r3, (0 : Int)))))))))))
def s0c (ret : R → Option β) (x0 : ByteArray) (x1 x2 : Int) (x3 x4 : Int) (x5 : ByteArray) : Option β := (bif (decide (x1 < (16 : Int))) then (bif (decide ((0 : Int) ≤ (IntKind.wrap .u64 (IntKind.wrap .i64 ((60 : Int) - (IntKind.wrap .i64 ((4 : Int) * x1))))))) then ((g91 (IntKind.wrap .i64 (IntKind.wrap .u64 ((BitVec.toNat ((BitVec.ofInt (64 : Nat) (Int.fdiv x4 ((2 : Int) ^ (Min.min (Int.toNat (IntKind.wrap .u64 (IntKind.wrap .i64 ((60 : Int) - (IntKind.wrap .i64 ((4 : Int) * x1)))))) (64 : Nat))))) &&& (BitVec.ofInt (64 : Nat) (15 : Int)))) : Int)))).bind fun r0 => (bif ((decide (x0.size ≤ (4611686018427387903 : Nat))) && (decide (r0.size ≤ (4611686018427387903 : Nat)))) then ((s0 (x0 ++ r0) (IntKind.wrap .i64 (x1 + (1 : Int))) x2 x3 x4 x5).bind ret) else none)) else none) else (ret (x0, (0 : Int))))
variable {g60} {g90} {g91} {g92} {s0}
theorem ev : EvA (env g60 g90 g91 g92 s0) [] [0] e (A (c g60 g90 g92 s0 some)) := fun x y => Eq.trans (b := (A (c g60 g90 g92 s0 fun r => some (e r))).G x y) (by kernel_rfl) (by simp only [A, c, bo, so, oa, os, on, ofs])
theorem s0_ev : EvA (env g60 g90 g91 g92 s0) [4, 1, 0, 1, 2, 1, 3, 1, 3, 1, 3, 1, 4, 1, 0, 1, 1] [1, 5, 6] e (A_0 (s0c g91 s0 some)) := fun x y => Eq.trans (b := (A_0 (s0c g91 s0 fun r => some (e r))).G x y) (by kernel_rfl) (by simp only [A_0, s0c, bo, so, oa, os, on, ofs])
end
def s0 : Nat → S0 R
 | 0, _, _, _, _, _, _ => none
 | k + 1, x0, x1, x2, x3, x4, x5 => s0c (r36_digit.f k) (s0 k) some x0 x1 x2 x3 x4 x5
def f (k : Nat) (a0 a1 a2 : Int) (a3 : ByteArray) : Option R := c (r07_Digits.f k) (r04_Check.f k) (r36_Quote.f k) (s0 k) some a0 a1 a2 a3
noncomputable abbrev E (k : Nat) : FEnv := env (r07_Digits.f k) (r04_Check.f k) (r36_digit.f k) (r36_Quote.f k) (s0 k)
theorem hE (k : Nat) : EnvOK (E k).toEnv := ctsOK (Lc (r07_Digits.ok k) (Lc (r04_Check.ok k) (Lc (r36_digit.ok k) (Lc (r36_Quote.ok k) L0))))
theorem sk : ∀ k, ∀ s ∈ [sg0 (s0 k)], SegB prog f67 0 s
 | 0 => (Lc (sn (Lc (fun _ _ => rfl) L0)) L0)
 | k + 1 => (Lc (sg_ok (hE k) (sk k) (Lc s0_ev L0)) L0)
theorem ok (k : Nat) : CtOK prog 67 (ct (f k)) := fn_ok func67 rfl (by decide) (hE k) (sk k) (Lc ev L0)
end r36_Show
namespace r37_col
abbrev R : Type := ByteArray × Int
def e (r : R) : Res := ⟨.tup [(.one (.d .str r.1)), (.one (.d (.int .i64) r.2))], []⟩
abbrev T (δ : Type) : Type := ByteArray → Int → Bool → Int → Int → Int → ByteArray → Option δ
abbrev A {δ : Type} (g : T δ) : Arm δ := ⟨[.s T_api_Col], [], fun x y => g x.1.1.1 x.1.1.2.1 x.1.1.2.2.1 x.1.1.2.2.2.1.1 x.1.1.2.2.2.1.2.1 x.1.1.2.2.2.1.2.2.1 x.1.1.2.2.2.1.2.2.2.1⟩
abbrev G : Type := T R
def ct (g : G) : Ct := mkCt 0 [] [A g] e
abbrev S0 (δ : Type) : Type := ByteArray → ByteArray → ByteArray → ByteArray → Int → Bool → Int → Int → Int → ByteArray → Option δ
abbrev A_0 {δ : Type} (s : S0 δ) : Arm δ := ⟨[.k (.ptr 0 0), .d .str, .d .str, .d .str], [.box [.g T_api_Col]], fun x y => s x.2.1 x.2.2.1 x.2.2.2.1 y.1.1.1 y.1.1.2.1 y.1.1.2.2.1 y.1.1.2.2.2.1.1 y.1.1.2.2.2.1.2.1 y.1.1.2.2.2.1.2.2.1 y.1.1.2.2.2.1.2.2.2.1⟩
def sg0 (s : S0 R) : Seg := mkSg [1, 1, 1, 1, 1, 1, 1] [] [1, 4, 6, 7] [A_0 s] e
section
variable {β : Type} (g38 : r37_kind.G) (g66 : r37_names.G) (g67 : r36_Show.G) (s0 : S0 R)
noncomputable abbrev env : FEnv := mkEnv prog f37 [(38, r37_kind.ct g38), (66, r37_names.ct g66), (67, r36_Show.ct g67)] 0 [] [sg0 s0]
def c (ret : R → Option β) (a0 : ByteArray) (a1 : Int) (a2 : Bool) (a3 a4 a5 : Int) (a6 : ByteArray) : Option β := ((g66 [a0]).bind fun r0 => (bif (r0.2 != (0 : Int)) then (ret ((ByteArray.mk (List.toArray [])), r0.2)) else ((g38 a1).bind fun r1 => (bif (r1.2 != (0 : Int)) then (ret ((ByteArray.mk (List.toArray [])), r1.2)) else (bif a2 then ((s0 r0.1 r1.1 (ByteArray.mk (List.toArray [32, 110, 117, 108, 108])) a0 a1 a2 a3 a4 a5 a6).bind ret) else ((s0 r0.1 r1.1 (ByteArray.mk (List.toArray [32, 115, 101, 116])) a0 a1 a2 a3 a4 a5 a6).bind ret))))))
def s0c (ret : R → Option β) (x0 x1 : ByteArray) (x2 x3 : ByteArray) (x4 : Int) (x5 : Bool) (x6 x7 x8 : Int) (x9 : ByteArray) : Option β := ((g67 x6 x7 x8 x9).bind fun r0 => (bif ((decide (x0.size ≤ (4611686018427387903 : Nat))) && (decide (x1.size ≤ (4611686018427387903 : Nat)))) then (bif ((decide ((ByteArray.size (x0 ++ x1)) ≤ (4611686018427387903 : Nat))) && (decide (x2.size ≤ (4611686018427387903 : Nat)))) then (bif ((decide ((ByteArray.size ((x0 ++ x1) ++ x2)) ≤ (4611686018427387903 : Nat))) && true) then (bif ((decide ((ByteArray.size (((x0 ++ x1) ++ x2) ++ (ByteArray.mk (List.toArray [32])))) ≤ (4611686018427387903 : Nat))) && (decide (r0.1.size ≤ (4611686018427387903 : Nat)))) then (ret (((((x0 ++ x1) ++ x2) ++ (ByteArray.mk (List.toArray [32]))) ++ r0.1), r0.2)) else none) else none) else none) else none))
variable {g38} {g66} {g67} {s0}
theorem ev : EvA (env g38 g66 g67 s0) [] [0] e (A (c g38 g66 s0 some)) := fun x y => Eq.trans (b := (A (c g38 g66 s0 fun r => some (e r))).G x y) (by kernel_rfl) (by simp only [A, c, bo, so, oa, os, on, ofs])
theorem s0_ev : EvA (env g38 g66 g67 s0) [1, 1, 1, 1, 1, 1, 1] [1, 4, 6, 7] e (A_0 (s0c g67 some)) := fun x y => Eq.trans (b := (A_0 (s0c g67 fun r => some (e r))).G x y) (by kernel_rfl) (by simp only [A_0, s0c, bo, so, oa, os, on, ofs])
end
def s0 : Nat → S0 R
 | 0, _, _, _, _, _, _, _, _, _, _ => none
 | k + 1, x0, x1, x2, x3, x4, x5, x6, x7, x8, x9 => s0c (r36_Show.f k) some x0 x1 x2 x3 x4 x5 x6 x7 x8 x9
def f (k : Nat) (a0 : ByteArray) (a1 : Int) (a2 : Bool) (a3 a4 a5 : Int) (a6 : ByteArray) : Option R := c (r37_kind.f k) (r37_names.f k) (s0 k) some a0 a1 a2 a3 a4 a5 a6
noncomputable abbrev E (k : Nat) : FEnv := env (r37_kind.f k) (r37_names.f k) (r36_Show.f k) (s0 k)
theorem hE (k : Nat) : EnvOK (E k).toEnv := ctsOK (Lc (r37_kind.ok k) (Lc (r37_names.ok k) (Lc (r36_Show.ok k) L0)))
theorem sk : ∀ k, ∀ s ∈ [sg0 (s0 k)], SegB prog f37 0 s
 | 0 => (Lc (sn (Lc (fun _ _ => rfl) L0)) L0)
 | k + 1 => (Lc (sg_ok (hE k) (sk k) (Lc s0_ev L0)) L0)
theorem ok (k : Nat) : CtOK prog 37 (ct (f k)) := fn_ok func37 rfl (by decide) (hE k) (sk k) (Lc ev L0)
end r37_col
namespace r37_create
abbrev R : Type := ByteArray × Int
def e (r : R) : Res := ⟨.tup [(.one (.d .str r.1)), (.one (.d (.int .i64) r.2))], []⟩
abbrev T (δ : Type) : Type := ByteArray → Int → (List D_api_Col) → Option δ
abbrev A {δ : Type} (g : T δ) : Arm δ := ⟨[.s T_api_Table], [], fun x y => g x.1.1.1 x.1.1.2.1 x.1.1.2.2.1⟩
abbrev G : Type := T R
def ct (g : G) : Ct := mkCt 0 [] [A g] e
abbrev S0 (δ : Type) : Type := ByteArray → Int → ByteArray → Int → (List D_api_Col) → Option δ
abbrev A_0 {δ : Type} (s : S0 δ) : Arm δ := ⟨[.k (.ptr 0 0), .d .str, .d (.int .i64)], [.box [.g T_api_Table]], fun x y => s x.2.1 x.2.2.1 y.1.1.1 y.1.1.2.1 y.1.1.2.2.1⟩
def sg0 (s : S0 R) : Seg := mkSg [4, 1, 0, 1, 1, 1, 1, 1, 1, 1] [] [1, 4, 7] [A_0 s] e
section
variable {β : Type} (g32 : r37_small.G) (g37 : r37_col.G) (g66 : r37_names.G) (s0 : S0 R)
noncomputable abbrev env : FEnv := mkEnv prog f35 [(32, r37_small.ct g32), (37, r37_col.ct g37), (66, r37_names.ct g66)] 0 [] [sg0 s0]
def c (ret : R → Option β) (a0 : ByteArray) (a1 : Int) (a2 : List D_api_Col) : Option β := ((g66 [a0]).bind fun r0 => (bif (r0.2 != (0 : Int)) then (ret ((ByteArray.mk (List.toArray [])), r0.2)) else ((g32 a1).bind fun r1 => (bif (r1.2 != (0 : Int)) then (ret ((ByteArray.mk (List.toArray [])), r1.2)) else (bif (decide ((a2.length : Int) > (8 : Int))) then (ret ((ByteArray.mk (List.toArray [])), (2 : Int))) else (bif (true && (decide (r0.1.size ≤ (4611686018427387903 : Nat)))) then (bif ((decide ((ByteArray.size ((ByteArray.mk (List.toArray [99, 114, 101, 97, 116, 101])) ++ r0.1)) ≤ (4611686018427387903 : Nat))) && (decide (r1.1.size ≤ (4611686018427387903 : Nat)))) then ((s0 (((ByteArray.mk (List.toArray [99, 114, 101, 97, 116, 101])) ++ r0.1) ++ r1.1) (0 : Int) a0 a1 a2).bind ret) else none) else none))))))
def s0c (ret : R → Option β) (x0 : ByteArray) (x1 : Int) (x2 : ByteArray) (x3 : Int) (x4 : List D_api_Col) : Option β := (bif (decide (x1 < (x4.length : Int))) then (bif ((decide ((0 : Int) ≤ x1)) && (decide (x1 < (x4.length : Int)))) then ((g37 (elem T_api_Col x4 x1).1 (elem T_api_Col x4 x1).2.1 (elem T_api_Col x4 x1).2.2.1 (elem T_api_Col x4 x1).2.2.2.1.1 (elem T_api_Col x4 x1).2.2.2.1.2.1 (elem T_api_Col x4 x1).2.2.2.1.2.2.1 (elem T_api_Col x4 x1).2.2.2.1.2.2.2.1).bind fun r0 => (bif (r0.2 != (0 : Int)) then (ret ((ByteArray.mk (List.toArray [])), r0.2)) else (bif ((decide (x0.size ≤ (4611686018427387903 : Nat))) && (decide (r0.1.size ≤ (4611686018427387903 : Nat)))) then ((s0 (x0 ++ r0.1) (IntKind.wrap .i64 (x1 + (1 : Int))) x2 x3 x4).bind ret) else none))) else none) else (ret (x0, (0 : Int))))
variable {g32} {g37} {g66} {s0}
theorem ev : EvA (env g32 g37 g66 s0) [] [0] e (A (c g32 g66 s0 some)) := fun x y => Eq.trans (b := (A (c g32 g66 s0 fun r => some (e r))).G x y) (by kernel_rfl) (by simp only [A, c, bo, so, oa, os, on, ofs])
theorem s0_ev : EvA (env g32 g37 g66 s0) [4, 1, 0, 1, 1, 1, 1, 1, 1, 1] [1, 4, 7] e (A_0 (s0c g37 s0 some)) := fun x y => Eq.trans (b := (A_0 (s0c g37 s0 fun r => some (e r))).G x y) (by kernel_rfl) (by simp only [A_0, s0c, bo, so, oa, os, on, ofs])
end
def s0 : Nat → S0 R
 | 0, _, _, _, _, _ => none
 | k + 1, x0, x1, x2, x3, x4 => s0c (r37_col.f k) (s0 k) some x0 x1 x2 x3 x4
def f (k : Nat) (a0 : ByteArray) (a1 : Int) (a2 : List D_api_Col) : Option R := c (r37_small.f k) (r37_names.f k) (s0 k) some a0 a1 a2
noncomputable abbrev E (k : Nat) : FEnv := env (r37_small.f k) (r37_col.f k) (r37_names.f k) (s0 k)
theorem hE (k : Nat) : EnvOK (E k).toEnv := ctsOK (Lc (r37_small.ok k) (Lc (r37_col.ok k) (Lc (r37_names.ok k) L0)))
theorem sk : ∀ k, ∀ s ∈ [sg0 (s0 k)], SegB prog f35 0 s
 | 0 => (Lc (sn (Lc (fun _ _ => rfl) L0)) L0)
 | k + 1 => (Lc (sg_ok (hE k) (sk k) (Lc s0_ev L0)) L0)
theorem ok (k : Nat) : CtOK prog 35 (ct (f k)) := fn_ok func35 rfl (by decide) (hE k) (sk k) (Lc ev L0)
end r37_create
namespace r37_named
abbrev R : Type := ByteArray × Int
def e (r : R) : Res := ⟨.tup [(.one (.d .str r.1)), (.one (.d (.int .i64) r.2))], []⟩
abbrev T (δ : Type) : Type := ByteArray → (List ByteArray) → Option δ
abbrev A {δ : Type} (g : T δ) : Arm δ := ⟨[.d .str, .d (.sl .str)], [], fun x y => g x.1 x.2.1⟩
abbrev G : Type := T R
def ct (g : G) : Ct := mkCt 0 [] [A g] e
section
variable {β : Type} (g66 : r37_names.G)
noncomputable abbrev env : FEnv := mkEnv prog f36 [(66, r37_names.ct g66)] 0 [] []
def c (ret : R → Option β) (a0 : ByteArray) (a1 : List ByteArray) : Option β := ((g66 a1).bind fun r0 => (bif (r0.2 != (0 : Int)) then (ret ((ByteArray.mk (List.toArray [])), r0.2)) else (bif ((decide (a0.size ≤ (4611686018427387903 : Nat))) && (decide (r0.1.size ≤ (4611686018427387903 : Nat)))) then (ret ((a0 ++ r0.1), (0 : Int))) else none)))
variable {g66}
theorem ev : EvA (env g66) [] [0, 1] e (A (c g66 some)) := fun x y => Eq.trans (b := (A (c g66 fun r => some (e r))).G x y) (by kernel_rfl) (by simp only [A, c, bo, so, oa, os, on, ofs])
end
def f (k : Nat) (a0 : ByteArray) (a1 : List ByteArray) : Option R := c (r37_names.f k) some a0 a1
noncomputable abbrev E (k : Nat) : FEnv := env (r37_names.f k) 
theorem hE (k : Nat) : EnvOK (E k).toEnv := ctsOK (Lc (r37_names.ok k) L0)
theorem ok (k : Nat) : CtOK prog 36 (ct (f k)) := fn_ok func36 rfl (by decide) (hE k) L0 (Lc ev L0)
end r37_named
namespace r37_split
abbrev R : Type := ByteArray × Int
def e (r : R) : Res := ⟨.tup [(.one (.d .str r.1)), (.one (.d (.int .i64) r.2))], []⟩
abbrev T (δ : Type) : Type := D_api_Change → Option δ
abbrev A {δ : Type} (g : T δ) : Arm δ := ⟨[.s T_api_Change], [], fun x y => g x.1.1⟩
abbrev G : Type := T R
def ct (g : G) : Ct := mkCt 0 [] [A g] e
section
variable {β : Type} (g36 : r37_named.G) (g66 : r37_names.G)
noncomputable abbrev env : FEnv := mkEnv prog f39 [(36, r37_named.ct g36), (66, r37_names.ct g66)] 0 [] []
def c (ret : R → Option β) (a0 : D_api_Change) : Option β := ((g36 (ByteArray.mk (List.toArray [115, 112, 108, 105, 116])) [a0.2.1, a0.2.2.2.1, a0.2.2.2.2.1]).bind fun r0 => (bif (r0.2 != (0 : Int)) then (ret ((ByteArray.mk (List.toArray [])), r0.2)) else (bif (decide ((a0.2.2.2.2.2.2.2.1.length : Int) > (8 : Int))) then (ret ((ByteArray.mk (List.toArray [])), (2 : Int))) else ((g66 a0.2.2.2.2.2.2.2.1).bind fun r1 => (bif ((decide (r0.1.size ≤ (4611686018427387903 : Nat))) && (decide (r1.1.size ≤ (4611686018427387903 : Nat)))) then (ret ((r0.1 ++ r1.1), r1.2)) else none)))))
variable {g36} {g66}
theorem ev : EvA (env g36 g66) [] [0] e (A (c g36 g66 some)) := fun x y => Eq.trans (b := (A (c g36 g66 fun r => some (e r))).G x y) (by kernel_rfl) (by simp only [A, c, bo, so, oa, os, on, ofs])
end
def f (k : Nat) (a0 : D_api_Change) : Option R := c (r37_named.f k) (r37_names.f k) some a0
noncomputable abbrev E (k : Nat) : FEnv := env (r37_named.f k) (r37_names.f k) 
theorem hE (k : Nat) : EnvOK (E k).toEnv := ctsOK (Lc (r37_named.ok k) (Lc (r37_names.ok k) L0))
theorem ok (k : Nat) : CtOK prog 39 (ct (f k)) := fn_ok func39 rfl (by decide) (hE k) L0 (Lc ev L0)
end r37_split
namespace r37_Change
abbrev R : Type := ByteArray × Int
def e (r : R) : Res := ⟨.tup [(.one (.d .str r.1)), (.one (.d (.int .i64) r.2))], []⟩
abbrev T (δ : Type) : Type := D_api_Change → Option δ
abbrev A {δ : Type} (g : T δ) : Arm δ := ⟨[.s T_api_Change], [], fun x y => g x.1.1⟩
abbrev G : Type := T R
def ct (g : G) : Ct := mkCt 0 [] [A g] e
section
variable {β : Type} (g35 : r37_create.G) (g36 : r37_named.G) (g37 : r37_col.G) (g38 : r37_kind.G) (g39 : r37_split.G)
noncomputable abbrev env : FEnv := mkEnv prog f16 [(35, r37_create.ct g35), (36, r37_named.ct g36), (37, r37_col.ct g37), (38, r37_kind.ct g38), (39, r37_split.ct g39)] 0 [] []
def c (ret : R → Option β) (a0 : D_api_Change) : Option β := (bif (a0.1 == (1 : Int)) then ((g35 a0.2.2.2.2.2.2.2.2.2.1.1 a0.2.2.2.2.2.2.2.2.2.1.2.1 a0.2.2.2.2.2.2.2.2.2.1.2.2.1).bind fun r0 => (bif (r0.2 != (0 : Int)) then (ret ((ByteArray.mk (List.toArray [])), r0.2)) else (ret (r0.1, (0 : Int))))) else (bif (a0.1 == (2 : Int)) then ((g36 (ByteArray.mk (List.toArray [97, 100, 100])) [a0.2.1]).bind fun r1 => (bif (r1.2 == (0 : Int)) then ((g37 a0.2.2.2.2.2.2.2.2.1.1 a0.2.2.2.2.2.2.2.2.1.2.1 a0.2.2.2.2.2.2.2.2.1.2.2.1 a0.2.2.2.2.2.2.2.2.1.2.2.2.1.1 a0.2.2.2.2.2.2.2.2.1.2.2.2.1.2.1 a0.2.2.2.2.2.2.2.2.1.2.2.2.1.2.2.1 a0.2.2.2.2.2.2.2.2.1.2.2.2.1.2.2.2.1).bind fun r2 => (bif ((decide (r1.1.size ≤ (4611686018427387903 : Nat))) && (decide (r2.1.size ≤ (4611686018427387903 : Nat)))) then (bif (r2.2 != (0 : Int)) then (ret ((ByteArray.mk (List.toArray [])), r2.2)) else (ret ((r1.1 ++ r2.1), (0 : Int)))) else none)) else (bif (r1.2 != (0 : Int)) then (ret ((ByteArray.mk (List.toArray [])), r1.2)) else (ret (r1.1, (0 : Int)))))) else (bif (a0.1 == (3 : Int)) then ((g36 (ByteArray.mk (List.toArray [100, 114, 111, 112])) [a0.2.1, a0.2.2.2.2.2.1]).bind fun r3 => (bif (r3.2 != (0 : Int)) then (ret ((ByteArray.mk (List.toArray [])), r3.2)) else (ret (r3.1, (0 : Int))))) else (bif (a0.1 == (4 : Int)) then ((g36 (ByteArray.mk (List.toArray [114, 101, 116, 121, 112, 101])) [a0.2.1, a0.2.2.2.2.2.1]).bind fun r4 => (bif (r4.2 == (0 : Int)) then ((g38 a0.2.2.2.2.2.2.1).bind fun r5 => (bif ((decide (r4.1.size ≤ (4611686018427387903 : Nat))) && (decide (r5.1.size ≤ (4611686018427387903 : Nat)))) then (bif (r5.2 != (0 : Int)) then (ret ((ByteArray.mk (List.toArray [])), r5.2)) else (ret ((r4.1 ++ r5.1), (0 : Int)))) else none)) else (bif (r4.2 != (0 : Int)) then (ret ((ByteArray.mk (List.toArray [])), r4.2)) else (ret (r4.1, (0 : Int)))))) else (bif (a0.1 == (5 : Int)) then ((g39 a0).bind fun r6 => (bif (r6.2 != (0 : Int)) then (ret ((ByteArray.mk (List.toArray [])), r6.2)) else (ret (r6.1, (0 : Int))))) else (bif (a0.1 == (6 : Int)) then ((g36 (ByteArray.mk (List.toArray [109, 101, 114, 103, 101])) [a0.2.1, a0.2.2.1, a0.2.2.2.1]).bind fun r7 => (bif (r7.2 != (0 : Int)) then (ret ((ByteArray.mk (List.toArray [])), r7.2)) else (ret (r7.1, (0 : Int))))) else (ret ((ByteArray.mk (List.toArray [])), (1 : Int)))))))))
variable {g35} {g36} {g37} {g38} {g39}
theorem ev : EvA (env g35 g36 g37 g38 g39) [] [0] e (A (c g35 g36 g37 g38 g39 some)) := fun x y => Eq.trans (b := (A (c g35 g36 g37 g38 g39 fun r => some (e r))).G x y) (by kernel_rfl) (by simp only [A, c, bo, so, oa, os, on, ofs])
end
def f (k : Nat) (a0 : D_api_Change) : Option R := c (r37_create.f k) (r37_named.f k) (r37_col.f k) (r37_kind.f k) (r37_split.f k) some a0
noncomputable abbrev E (k : Nat) : FEnv := env (r37_create.f k) (r37_named.f k) (r37_col.f k) (r37_kind.f k) (r37_split.f k) 
theorem hE (k : Nat) : EnvOK (E k).toEnv := ctsOK (Lc (r37_create.ok k) (Lc (r37_named.ok k) (Lc (r37_col.ok k) (Lc (r37_kind.ok k) (Lc (r37_split.ok k) L0)))))
theorem ok (k : Nat) : CtOK prog 16 (ct (f k)) := fn_ok func16 rfl (by decide) (hE k) L0 (Lc ev L0)
end r37_Change
namespace r37_values
abbrev R : Type := ByteArray × Int
def e (r : R) : Res := ⟨.tup [(.one (.d .str r.1)), (.one (.d (.int .i64) r.2))], []⟩
abbrev T (δ : Type) : Type := (List D_api_Value) → Option δ
abbrev A {δ : Type} (g : T δ) : Arm δ := ⟨[.d (.sl T_api_Value)], [], fun x y => g x.1⟩
abbrev G : Type := T R
def ct (g : G) : Ct := mkCt 0 [] [A g] e
abbrev S0 (δ : Type) : Type := (List D_api_Value) → ByteArray → Int → Option δ
abbrev A_0 {δ : Type} (s : S0 δ) : Arm δ := ⟨[.d (.sl T_api_Value), .d .str, .d (.int .i64)], [], fun x y => s x.1 x.2.1 x.2.2.1⟩
def sg0 (s : S0 R) : Seg := mkSg [4, 1, 0, 1, 1, 1] [] [0, 4, 5] [A_0 s] e
section
variable {β : Type} (g67 : r36_Show.G) (s0 : S0 R)
noncomputable abbrev env : FEnv := mkEnv prog f63 [(67, r36_Show.ct g67)] 0 [] [sg0 s0]
def c (ret : R → Option β) (a0 : List D_api_Value) : Option β := (bif (decide ((a0.length : Int) > (8 : Int))) then (ret ((ByteArray.mk (List.toArray [])), (2 : Int))) else ((s0 a0 (ByteArray.mk (List.toArray [])) (0 : Int)).bind ret))
def s0c (ret : R → Option β) (x0 : List D_api_Value) (x1 : ByteArray) (x2 : Int) : Option β := (bif (decide (x2 < (x0.length : Int))) then (bif ((decide ((0 : Int) ≤ x2)) && (decide (x2 < (x0.length : Int)))) then ((g67 (elem T_api_Value x0 x2).1 (elem T_api_Value x0 x2).2.1 (elem T_api_Value x0 x2).2.2.1 (elem T_api_Value x0 x2).2.2.2.1).bind fun r0 => (bif (r0.2 != (0 : Int)) then (ret ((ByteArray.mk (List.toArray [])), r0.2)) else (bif ((decide (x1.size ≤ (4611686018427387903 : Nat))) && true) then (bif ((decide ((ByteArray.size (x1 ++ (ByteArray.mk (List.toArray [32])))) ≤ (4611686018427387903 : Nat))) && (decide (r0.1.size ≤ (4611686018427387903 : Nat)))) then ((s0 x0 ((x1 ++ (ByteArray.mk (List.toArray [32]))) ++ r0.1) (IntKind.wrap .i64 (x2 + (1 : Int)))).bind ret) else none) else none))) else none) else (ret (x1, (0 : Int))))
variable {g67} {s0}
theorem ev : EvA (env g67 s0) [] [0] e (A (c s0 some)) := fun x y => Eq.trans (b := (A (c s0 fun r => some (e r))).G x y) (by kernel_rfl) (by simp only [A, c, bo, so, oa, os, on, ofs])
theorem s0_ev : EvA (env g67 s0) [4, 1, 0, 1, 1, 1] [0, 4, 5] e (A_0 (s0c g67 s0 some)) := fun x y => Eq.trans (b := (A_0 (s0c g67 s0 fun r => some (e r))).G x y) (by kernel_rfl) (by simp only [A_0, s0c, bo, so, oa, os, on, ofs])
end
def s0 : Nat → S0 R
 | 0, _, _, _ => none
 | k + 1, x0, x1, x2 => s0c (r36_Show.f k) (s0 k) some x0 x1 x2
def f (k : Nat) (a0 : List D_api_Value) : Option R := c (s0 k) some a0
noncomputable abbrev E (k : Nat) : FEnv := env (r36_Show.f k) (s0 k)
theorem hE (k : Nat) : EnvOK (E k).toEnv := ctsOK (Lc (r36_Show.ok k) L0)
theorem sk : ∀ k, ∀ s ∈ [sg0 (s0 k)], SegB prog f63 0 s
 | 0 => (Lc (sn (Lc (fun _ _ => rfl) L0)) L0)
 | k + 1 => (Lc (sg_ok (hE k) (sk k) (Lc s0_ev L0)) L0)
theorem ok (k : Nat) : CtOK prog 63 (ct (f k)) := fn_ok func63 rfl (by decide) (hE k) (sk k) (Lc ev L0)
end r37_values
namespace r37_scan
abbrev R : Type := ByteArray × Int
def e (r : R) : Res := ⟨.tup [(.one (.d .str r.1)), (.one (.d (.int .i64) r.2))], []⟩
abbrev T (δ : Type) : Type := D_api_Op → Option δ
abbrev A {δ : Type} (g : T δ) : Arm δ := ⟨[.s T_api_Op], [], fun x y => g x.1.1⟩
abbrev G : Type := T R
def ct (g : G) : Ct := mkCt 0 [] [A g] e
section
variable {β : Type} (g32 : r37_small.G) (g36 : r37_named.G) (g63 : r37_values.G)
noncomputable abbrev env : FEnv := mkEnv prog f61 [(32, r37_small.ct g32), (36, r37_named.ct g36), (63, r37_values.ct g63)] 0 [] []
def c (ret : R → Option β) (a0 : D_api_Op) : Option β := ((g36 (ByteArray.mk (List.toArray [115, 99, 97, 110])) [a0.2.1]).bind fun r0 => (bif (r0.2 != (0 : Int)) then (ret ((ByteArray.mk (List.toArray [])), r0.2)) else ((g32 a0.2.2.2.2.2.1).bind fun r1 => (bif (r1.2 != (0 : Int)) then (ret ((ByteArray.mk (List.toArray [])), r1.2)) else ((g63 a0.2.2.2.1).bind fun r2 => (bif (r2.2 != (0 : Int)) then (ret ((ByteArray.mk (List.toArray [])), r2.2)) else ((g63 a0.2.2.2.2.1).bind fun r3 => (bif ((decide (r0.1.size ≤ (4611686018427387903 : Nat))) && (decide (r1.1.size ≤ (4611686018427387903 : Nat)))) then (bif ((decide ((ByteArray.size (r0.1 ++ r1.1)) ≤ (4611686018427387903 : Nat))) && (decide (r2.1.size ≤ (4611686018427387903 : Nat)))) then (bif ((decide ((ByteArray.size ((r0.1 ++ r1.1) ++ r2.1)) ≤ (4611686018427387903 : Nat))) && true) then (bif ((decide ((ByteArray.size (((r0.1 ++ r1.1) ++ r2.1) ++ (ByteArray.mk (List.toArray [32, 116, 111])))) ≤ (4611686018427387903 : Nat))) && (decide (r3.1.size ≤ (4611686018427387903 : Nat)))) then (ret (((((r0.1 ++ r1.1) ++ r2.1) ++ (ByteArray.mk (List.toArray [32, 116, 111]))) ++ r3.1), r3.2)) else none) else none) else none) else none))))))))
variable {g32} {g36} {g63}
theorem ev : EvA (env g32 g36 g63) [] [0] e (A (c g32 g36 g63 some)) := fun x y => Eq.trans (b := (A (c g32 g36 g63 fun r => some (e r))).G x y) (by kernel_rfl) (by simp only [A, c, bo, so, oa, os, on, ofs])
end
def f (k : Nat) (a0 : D_api_Op) : Option R := c (r37_small.f k) (r37_named.f k) (r37_values.f k) some a0
noncomputable abbrev E (k : Nat) : FEnv := env (r37_small.f k) (r37_named.f k) (r37_values.f k) 
theorem hE (k : Nat) : EnvOK (E k).toEnv := ctsOK (Lc (r37_small.ok k) (Lc (r37_named.ok k) (Lc (r37_values.ok k) L0)))
theorem ok (k : Nat) : CtOK prog 61 (ct (f k)) := fn_ok func61 rfl (by decide) (hE k) L0 (Lc ev L0)
end r37_scan
namespace r37_word
def e (r : ByteArray) : Res := ⟨.v (.one (.d .str r)), []⟩
abbrev T (δ : Type) : Type := Int → Option δ
abbrev A {δ : Type} (g : T δ) : Arm δ := ⟨[.d (.int .i64)], [], fun x y => g x.1⟩
abbrev G : Type := T ByteArray
def ct (g : G) : Ct := mkCt 0 [] [A g] e
section
variable {β : Type} 
noncomputable abbrev env : FEnv := mkEnv prog f62 [] 0 [] []
def c (ret : ByteArray → Option β) (a0 : Int) : Option β := (bif (a0 == (1 : Int)) then (ret ((ByteArray.mk (List.toArray [103, 101, 116])))) else (bif (a0 == (3 : Int)) then (ret ((ByteArray.mk (List.toArray [105, 110, 115, 101, 114, 116])))) else (bif (a0 == (4 : Int)) then (ret ((ByteArray.mk (List.toArray [117, 112, 100, 97, 116, 101])))) else (bif (a0 == (5 : Int)) then (ret ((ByteArray.mk (List.toArray [100, 101, 108, 101, 116, 101])))) else (bif (a0 == (7 : Int)) then (ret ((ByteArray.mk (List.toArray [98, 101, 103, 105, 110])))) else (bif (a0 == (8 : Int)) then (ret ((ByteArray.mk (List.toArray [99, 111, 109, 109, 105, 116])))) else (bif (a0 == (9 : Int)) then (ret ((ByteArray.mk (List.toArray [97, 98, 111, 114, 116])))) else (ret ((ByteArray.mk (List.toArray [])))))))))))
theorem ev : EvA (env) [] [0] e (A (c some)) := fun x y => Eq.trans (b := (A (c fun r => some (e r))).G x y) (by kernel_rfl) (by simp only [A, c, bo, so, oa, os, on, ofs])
end
def f (k : Nat) (a0 : Int) : Option ByteArray := c  some a0
noncomputable abbrev E (k : Nat) : FEnv := env  
theorem hE (k : Nat) : EnvOK (E k).toEnv := ctsOK L0
theorem ok (k : Nat) : CtOK prog 62 (ct (f k)) := fn_ok func62 rfl (by decide) (hE k) L0 (Lc ev L0)
end r37_word
end Go.Proofs.YtimadphjdkjgaaaGreatDoor.Aev
